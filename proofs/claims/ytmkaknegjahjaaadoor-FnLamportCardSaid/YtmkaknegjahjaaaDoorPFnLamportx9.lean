-- laid by this session's program myprint.py over the kit's printer
-- squeezed
-- aliased
import Derived.Test.YtmkaknegjahjaaaDoorPFnLamportx0
import Derived.Test.YtmkaknegjahjaaaDoorPFnLamportx1
import Derived.Test.YtmkaknegjahjaaaDoorPFnLamportx5
import Derived.Test.YtmkaknegjahjaaaDoorPFnLamportx6
namespace Go.Proofs.YtmkaknegjahjaaaDoor.PFnLamport
open Go.RowKit Go.Proofs.YtmkaknegjahjaaaDoorV.PrintWords Go.Proofs.YtmkaknegjahjaaaDoorV.PrintLast Go.Proofs.YtmkaknegjahjaaaDoorV.PrintMore
attribute [local go_sem] max2_int min2_int max_two min_two max_three min_three max_four min_four u8_wm u32_wm   -- for this text's walks alone
set_option linter.unusedVariables false
set_option linter.unusedSimpArgs false

/-! ### impl_KeySignature_leads: function 72 -/
theorem qa9 : type_of% @below_alloc:=@below_alloc
theorem qb9 : type_of% @pw_below_drewN:=@pw_below_drewN
theorem qc9 : type_of% @below_drew1:=@below_drew1
theorem qd9 : type_of% @Aside0.mk:=@Aside0.mk
mutual
def impl_KeySignature_leads.l0 : Nat → ByteArray → List Int → Int → Int → Int → List ByteArray → List ByteArray → List ByteArray → Option (ByteArray)
 | 0,_,_,_,_,_,_,_,_ => none
 | k + 1,x5,x14,x15,x16,x304000,x304001,x304002,x304003 => if x16 < x15 then (if 0 ≤ x16 then (if x16 < (x14.length : Int) then (if (rd x14 x16) = 48 then (if x16 < (x304001.length : Int) then ((impl_hash.f (rdOf ByteArray.empty x304001 x16)).bind fun t310 => (if x16 < (x304002.length : Int) then (if t310.size + (rdOf ByteArray.empty x304002 x16).size ≤ 9223372036854775807 then (if x5.size + (t310 ++ (rdOf ByteArray.empty x304002 x16)).size ≤ 9223372036854775807 then (impl_KeySignature_leads.l0 k (x5 ++ (t310 ++ (rdOf ByteArray.empty x304002 x16))) x14 x15 (wrap64 (x16 + 1)) x304000 x304001 x304002 x304003) else (none)) else (none)) else (none))) else (none)) else (if x16 < (x304002.length : Int) then (if x16 < (x304001.length : Int) then ((impl_hash.f (rdOf ByteArray.empty x304001 x16)).bind fun t314 => (if (rdOf ByteArray.empty x304002 x16).size + t314.size ≤ 9223372036854775807 then (if x5.size + ((rdOf ByteArray.empty x304002 x16) ++ t314).size ≤ 9223372036854775807 then (impl_KeySignature_leads.l0 k (x5 ++ ((rdOf ByteArray.empty x304002 x16) ++ t314)) x14 x15 (wrap64 (x16 + 1)) x304000 x304001 x304002 x304003) else (none)) else (none))) else (none)) else (none))) else (none)) else (none)) else ((impl_hash.f x5).bind fun t315 => (impl_KeySignature_leads.l1 k t315 x304000 x304003 (x304003.length : Int) 0))
def impl_KeySignature_leads.l1 : Nat → ByteArray → Int → List ByteArray → Int → Int → Option (ByteArray)
 | 0,_,_,_,_,_ => none
 | k + 1,x8,x9,x57,x58,x59 => if x59 < x58 then (if 0 ≤ x59 then (if x59 < (x57.length : Int) then (if (Int.tmod x9 2) = 0 then ((impl_node.f x8 (rdOf ByteArray.empty x57 x59)).bind fun t317 => (impl_KeySignature_leads.l1 k t317 (wrap64 (Int.tdiv x9 2)) x57 x58 (wrap64 (x59 + 1)))) else ((impl_node.f (rdOf ByteArray.empty x57 x59) x8).bind fun t318 => (impl_KeySignature_leads.l1 k t318 (wrap64 (Int.tdiv x9 2)) x57 x58 (wrap64 (x59 + 1))))) else (none)) else (none)) else (some x8)
end
def impl_KeySignature_leads.f (k : Nat) (a0_0 : Int) (l0_1 : List ByteArray) (l0_2 : List ByteArray) (l0_3 : List ByteArray) (a1 : ByteArray) : Option (ByteArray):=(impl_messageBits.f k a1).bind fun t304 => (if t304.size ≤ 9223372036854775807 then ((some (bytesOf t304 : List Int)).bind fun y305 => (impl_KeySignature_leads.l0 k (⟨#[107,101,121]⟩ : ByteArray) y305 (y305.length : Int) 0 a0_0 l0_1 l0_2 l0_3)) else (none))
theorem impl_KeySignature_leads.mono_l : ∀ k,(∀ y0 y1 y2 y3 y4 y5 y6 y7,LeO (impl_KeySignature_leads.l0 k y0 y1 y2 y3 y4 y5 y6 y7) (impl_KeySignature_leads.l0 (k + 1) y0 y1 y2 y3 y4 y5 y6 y7)) ∧ (∀ y0 y1 y2 y3 y4,LeO (impl_KeySignature_leads.l1 k y0 y1 y2 y3 y4) (impl_KeySignature_leads.l1 (k + 1) y0 y1 y2 y3 y4))
 | 0 => ⟨fun _ _ _ _ _ _ _ _ r h => by simp [impl_KeySignature_leads.l0] at h,fun _ _ _ _ _ r h => by simp [impl_KeySignature_leads.l1] at h⟩
 | k + 1 => by
  obtain ⟨ih0,ih1⟩:=impl_KeySignature_leads.mono_l k
  refine ⟨?_,?_⟩
  ·
   intro y0 y1 y2 y3 y4 y5 y6 y7
   unfold impl_KeySignature_leads.l0
   repeat' first
   | (with_reducible exact ih0 _ _ _ _ _ _ _ _)
   | (with_reducible exact ih1 _ _ _ _ _)
   | (with_reducible exact impl_messageBits.mono _ _)
   | (with_reducible exact LeO.refl _)
   | (with_reducible exact LeO.none _)
   | (with_reducible refine LeO.ite ?_ ?_)
   | (with_reducible refine LeO.bind ?_ (fun _ => ?_))
   | exact ih0 _ _ _ _ _ _ _ _
   | exact ih1 _ _ _ _ _
   | exact impl_messageBits.mono _ _
   | exact LeO.none _
   | refine LeO.ite ?_ ?_
   | refine LeO.bind ?_ (fun _ => ?_)
  ·
   intro y0 y1 y2 y3 y4
   unfold impl_KeySignature_leads.l1
   repeat' first
   | (with_reducible exact ih0 _ _ _ _ _ _ _ _)
   | (with_reducible exact ih1 _ _ _ _ _)
   | (with_reducible exact impl_messageBits.mono _ _)
   | (with_reducible exact LeO.refl _)
   | (with_reducible exact LeO.none _)
   | (with_reducible refine LeO.ite ?_ ?_)
   | (with_reducible refine LeO.bind ?_ (fun _ => ?_))
   | exact ih0 _ _ _ _ _ _ _ _
   | exact ih1 _ _ _ _ _
   | exact impl_messageBits.mono _ _
   | exact LeO.none _
   | refine LeO.ite ?_ ?_
   | refine LeO.bind ?_ (fun _ => ?_)
theorem impl_KeySignature_leads.mono : ∀ a0 a1 a2 a3 a4 k,LeO (impl_KeySignature_leads.f k a0 a1 a2 a3 a4) (impl_KeySignature_leads.f (k + 1) a0 a1 a2 a3 a4):=by
 intro a0 a1 a2 a3 a4 k
 obtain ⟨ih0,ih1⟩:=impl_KeySignature_leads.mono_l k
 unfold impl_KeySignature_leads.f
 repeat' first
   | (with_reducible exact ih0 _ _ _ _ _ _ _ _)
   | (with_reducible exact ih1 _ _ _ _ _)
   | (with_reducible exact impl_messageBits.mono _ _)
   | (with_reducible exact LeO.refl _)
   | (with_reducible exact LeO.none _)
   | (with_reducible refine LeO.ite ?_ ?_)
   | (with_reducible refine LeO.bind ?_ (fun _ => ?_))
   | exact ih0 _ _ _ _ _ _ _ _
   | exact ih1 _ _ _ _ _
   | exact impl_messageBits.mono _ _
   | exact LeO.none _
   | refine LeO.ite ?_ ?_
   | refine LeO.bind ?_ (fun _ => ?_)
def impl_KeySignature_leads.T6 : Bool × List (List Nat × List Nat):=(true,[([],[]),([],[]),([1],[1]),([],[]),([2,3],[2,3]),([4],[4]),([5],[5]),([],[]),([7],[7]),([],[]),([8,9],[8,9]),([10],[10]),([6,11],[6,11]),([0,12],[0,12]),([13,6,0,1,2,3,4,5,6,7,8,9,10,11,12,13],[0,13])])
def impl_KeySignature_leads.B6 : List Nat:=[0,0,2,0,14,30,62,0,128,0,896,1920,4094,8191,16383]
theorem impl_KeySignature_leads.tab6 : rtab .any (opsOf Tryd.f72 6) = impl_KeySignature_leads.T6:=by kernel_rfl
theorem impl_KeySignature_leads.bits6 : waitsOk impl_KeySignature_leads.T6.2 impl_KeySignature_leads.B6 = true:=by kernel_rfl
def impl_KeySignature_leads.T7 : Bool × List (List Nat × List Nat):=(true,[([],[]),([],[]),([1],[1]),([],[]),([2,3],[2,3]),([4],[4]),([],[]),([6],[6]),([],[]),([7,8],[7,8]),([9],[9]),([10],[10]),([5,11],[5,11]),([0,12],[0,12]),([13,11,0,1,2,3,4,5,6,7,8,9,10,11,12,13],[0,13])])
def impl_KeySignature_leads.B7 : List Nat:=[0,0,2,0,14,30,0,64,0,448,960,1984,4094,8191,16383]
theorem impl_KeySignature_leads.tab7 : rtab .any (opsOf Tryd.f72 7) = impl_KeySignature_leads.T7:=by kernel_rfl
theorem impl_KeySignature_leads.bits7 : waitsOk impl_KeySignature_leads.T7.2 impl_KeySignature_leads.B7 = true:=by kernel_rfl
set_option maxHeartbeats 8000000 in
set_option maxRecDepth 100000 in
theorem impl_KeySignature_leads.calls (k : Nat) (a0_0 : Int) (A0_1 : Option Addr) (c0_1 : Nat) (l0_1 : List ByteArray) (A0_2 : Option Addr) (c0_2 : Nat) (l0_2 : List ByteArray) (A0_3 : Option Addr) (c0_3 : Nat) (l0_3 : List ByteArray) (a1 : ByteArray) (r : ByteArray) (w : World) (hr0_1 : Kd.C Kd.string w A0_1 l0_1.length l0_1) (hc0_1 : l0_1.length ≤ c0_1) (hr0_2 : Kd.C Kd.string w A0_2 l0_2.length l0_2) (hc0_2 : l0_2.length ≤ c0_2) (hr0_3 : Kd.C Kd.string w A0_3 l0_3.length l0_3) (hc0_3 : l0_3.length ≤ c0_3) (hG_ : Go.Proofs.YtmkaknegjahjaaaDoor.Sha.GlobA w) (h : impl_KeySignature_leads.f k a0_0 l0_1 l0_2 l0_3 a1 = some r) :
  Calls Tryd.prog 72 #[.agg #[.int .i64 a0_0,.slice A0_1 l0_1.length c0_1,.slice A0_2 l0_2.length c0_2,.slice A0_3 l0_3.length c0_3],.string a1] w fun e w' => e = .returned (.string r) ∧ Below w.heap.size w w':=by
 have hu33:=Tryd.underlying33
 have HR0_1:=qd9 hr0_1
 have HC0_1:=qd9 hc0_1
 clear hr0_1 hc0_1
 have HR0_2:=qd9 hr0_2
 have HC0_2:=qd9 hc0_2
 clear hr0_2 hc0_2
 have HR0_3:=qd9 hr0_3
 have HC0_3:=qd9 hc0_3
 clear hr0_3 hc0_3
 have HB:=qd9 (Below.refl w.heap.size w)
 have H : ((impl_messageBits.f k a1).bind fun t304 => (if t304.size ≤ 9223372036854775807 then ((some (bytesOf t304 : List Int)).bind fun y305 => (impl_KeySignature_leads.l0 k (⟨#[107,101,121]⟩ : ByteArray) y305 (y305.length : Int) 0 a0_0 l0_1 l0_2 l0_3)) else (none))) = some r:=h
 clear h
 replace H:=Option.bind_eq_some_iff.mp H
 obtain ⟨t304,A30,H⟩:=H
 replace H : (if t304.size ≤ 9223372036854775807 then ((some (bytesOf t304 : List Int)).bind fun y305 => (impl_KeySignature_leads.l0 k (⟨#[107,101,121]⟩ : ByteArray) y305 (y305.length : Int) 0 a0_0 l0_1 l0_2 l0_3)) else (none)) = some r:=H
 have A3:=qd9 A30
 clear A30
 by_cases c4 : t304.size ≤ 9223372036854775807
 ·
  rw [if_pos c4] at H
  have c4b0:=eq_true c4
  have c4b1 : decide (t304.size ≤ 9223372036854775807) = true:=decide_eq_true c4
  try have c4b2 : (9223372036854775807 < t304.size) = False:=eq_false (Nat.not_lt.2 c4)
  clear c4
  obtain ⟨y305,hy305⟩ : ∃ y_ : List Int,y_ = (bytesOf t304):=⟨_,rfl⟩
  replace H : (impl_KeySignature_leads.l0 k (⟨#[107,101,121]⟩ : ByteArray) y305 (y305.length : Int) 0 a0_0 l0_1 l0_2 l0_3) = some r:=by first|(rw [hy305];with_reducible exact H)|(have H2_:=(Option.bind_some _ _).symm.trans H;rw [hy305];with_reducible exact H2_)|(have H2_:=(Option.bind_some _ _).symm.trans H;with_reducible exact H2_)|with_reducible exact H|(rw [hy305];exact H)|exact H
  have Ny305:=qd9 hy305
  clear hy305
  have H':=qd9 H
  clear H
  go_enter Tryd.func72,Tryd.ntmps72
  go_wp2_with (first|((with_reducible refine gate_dst (N:=2) rfl ?_);refine box_event ?hg (N:=2) ?hd (cs:=#[.int .i64 a0_0,.slice A0_1 l0_1.length c0_1,.slice A0_2 l0_2.length c0_2,.slice A0_3 l0_3.length c0_3]) (t:=33) ?hr ?_;(case hd => rfl);(case hg => rfl);(case hr => first|(go_simp;done)|(go_simp;rfl));intro gb303 hg w5 hbox hb;have n0_:=qd9 (below_step (by repeat (first|(with_reducible first|exact HB.out|apply qa9|apply qb9|apply qc9)|exact HB.out)) hb);have n1_:=qd9 (hbox);have n2_:=qd9 ((by rw [hg];exact (below_size (by repeat (first|(with_reducible first|exact HB.out|apply qa9|apply qb9|apply qc9)|exact HB.out))) : w.heap.size ≤ gb303));have n3_:=qd9 ((by rw [hg];exact (below_size (by repeat (first|(with_reducible first|exact HB.out|apply qa9|apply qb9|apply qc9)|exact HB.out))) : w.heap.size ≤ gb303));clear HB;have HB:=n0_;have BK303:=n1_;have GW303:=n2_;have GE303:=n3_;clear n0_ n1_ n2_ n3_;clear hb hbox hg)|((with_reducible refine gate_callee (f:=73) rfl ?_);refine goesL_ (some 13) rfl rfl Tryd.func73 (by kernel_rfl) rfl #[.string a1] rfl (by (try simp only [List.map_toArray,List.map_cons,List.map_nil]);first|done|rfl|(simp only [List.length_drop,List.length_take];rfl)) ?_;(with_reducible refine (impl_messageBits.calls k a1 t304 _ ?side1 A3.out).mono ?_);(case side1 => exact Go.Proofs.YtmkaknegjahjaaaDoor.Sha.glob_below hG_ (by repeat (first|(with_reducible first|exact HB.out|apply qa9|apply qb9|apply qc9|refine below_set ?_ GE303.out)|exact HB.out)));rintro e w6 ⟨rfl,hb⟩;refine ⟨_,rfl,?_⟩;have n0_:=qd9 (blk_below (g:=gb303) (o:=.cells #[.int .i64 a0_0,.slice A0_1 l0_1.length c0_1,.slice A0_2 l0_2.length c0_2,.slice A0_3 l0_3.length c0_3] 33 (0,0)) (by (with_reducible repeat (first|apply blk_drewN|apply blk_drew|apply blk_alloc));exact BK303.out) hb);have n1_:=qd9 (below_step (by repeat (first|(with_reducible first|exact HB.out|apply qa9|apply qb9|apply qc9|refine below_set ?_ GE303.out)|exact HB.out)) hb);clear BK303;clear HB;have BK303:=n0_;have HB:=n1_;clear n0_ n1_;(try clear hb);(try clear hb2);(try clear hk);(try clear hi))|((with_reducible refine gate_dst (N:=14) rfl ?_);refine R_bytes _ 5 rfl (N:=14) rfl 9 22 _ rfl t304 rfl Tryd.underlying9 Tryd.underlying22 Tryd.underlying5 (ok:=fun _ => True) trivial (of_decide_eq_true (by first|(with_reducible assumption)|assumption)) (Below.refl _ _) (Nat.le_refl _) ?_;intro v306 w7 ho8 hb hg_ hnew_;clear hg_ hnew_;(first|rw [← Ny305.out] at ho8|(simp only [Int.reduceToNat] at ho8;rw [← Ny305.out] at ho8));have n0_:=qd9 (Kd.R_lower ho8 (below_size (by repeat (first|(with_reducible first|exact HB.out|apply qa9|apply qb9|apply qc9|refine below_set ?_ GE303.out)|exact HB.out))));have n1_:=qd9 (blk_below (g:=gb303) (o:=.cells #[.int .i64 a0_0,.slice A0_1 l0_1.length c0_1,.slice A0_2 l0_2.length c0_2,.slice A0_3 l0_3.length c0_3] 33 (0,0)) (by (with_reducible repeat (first|apply blk_drewN|apply blk_drew|apply blk_alloc));exact BK303.out) hb);have n2_:=qd9 (below_step (by repeat (first|(with_reducible first|exact HB.out|apply qa9|apply qb9|apply qc9|refine below_set ?_ GE303.out)|exact HB.out)) hb);clear BK303;clear HB;have HO307:=n0_;have BK303:=n1_;have HB:=n2_;clear n0_ n1_ n2_;clear hb ho8;obtain ⟨Ao9,co9,eo9⟩:=Kd.R_slice HO307.out;subst eo9))
  go_loopg [5,16] k (fun kq v5 v16 w' => ∃ (x5_1 : ByteArray) (x16_1 : Int),v5 = .string x5_1 ∧ v16 = .int .i64 x16_1 ∧ Aside0 (impl_KeySignature_leads.l0 kq x5_1 y305 (y305.length : Int) x16_1 a0_0 l0_1 l0_2 l0_3 = some r) ∧ Aside0 (kq ≤ k) ∧ Aside0 (Kd.R (Kd.int .u8) 5 w' w.heap.size (fun _ => True) (.slice Ao9 y305.length co9) y305) ∧ Aside0 (w'.heap[gb303]? = some (.cells #[.int .i64 a0_0,(.slice A0_1 l0_1.length c0_1),(.slice A0_2 l0_2.length c0_2),(.slice A0_3 l0_3.length c0_3)] 33 (0,0))) ∧ Aside0 (Below w.heap.size w w'))
  case atStart => exact ⟨((⟨#[107,101,121]⟩ : ByteArray)),(0),(by first|rfl|(simp;done)|(simp [*];done)),(by first|rfl|(simp;done)|(simp [*];done)),H',⟨Nat.le_refl _⟩,⟨by (with_reducible repeat (first|apply Kd.R_alloc|apply Kd.R_drewN|apply Kd.R_drew));exact HO307.out⟩,⟨by (with_reducible repeat (first|apply blk_drewN|apply blk_drew|apply blk_alloc));exact BK303.out⟩,⟨by repeat (first|(with_reducible first|exact HB.out|apply qa9|apply qb9|apply qc9|refine below_set ?_ GE303.out)|exact HB.out)⟩⟩
  case round =>
   clear H'
   try clear p2
   try clear c4
   try clear c4b0
   try clear c4b1
   try clear c4b2
   try clear c7
   obtain ⟨x5_1,x16_1,rfl,rfl,HA,HK1,HO_14,BK303,HB⟩:=hrel
   cases gk with
   | zero => exact absurd HA.out (by simp [impl_KeySignature_leads.l0])
   | succ k1 =>
    have H:=HA.out
    clear HA
    simp only [impl_KeySignature_leads.l0] at H
    by_cases c10 : x16_1 < (y305.length : Int)
    ·
     rw [if_pos c10] at H
     have c10b0 : decide (x16_1 < (y305.length : Int)) = true:=decide_eq_true c10
     clear c10
     by_cases c11 : 0 ≤ x16_1
     ·
      rw [if_pos c11] at H
      have c11b0 : decide (0 ≤ x16_1) = true:=decide_eq_true c11
      clear c11
      by_cases c12 : x16_1 < (y305.length : Int)
      ·
       rw [if_pos c12] at H
       have c12b0 : decide (x16_1 < (y305.length : Int)) = true:=decide_eq_true c12
       clear c12
       by_cases c13 : (rd y305 x16_1) = 48
       ·
        rw [if_pos c13] at H
        have c13b0 : ((rd y305 x16_1) == 48) = true:=beq_iff_eq.mpr c13
        have c13b1 : ((rd y305 x16_1) != 48) = false:=bne_eq_false_iff_eq.mpr c13
        clear c13
        by_cases c14 : x16_1 < (l0_1.length : Int)
        ·
         rw [if_pos c14] at H
         have c14b0 : decide (x16_1 < (l0_1.length : Int)) = true:=decide_eq_true c14
         clear c14
         replace H:=Option.bind_eq_some_iff.mp H
         obtain ⟨t310,A150,H⟩:=H
         replace H : (if x16_1 < (l0_2.length : Int) then (if t310.size + (rdOf ByteArray.empty l0_2 x16_1).size ≤ 9223372036854775807 then (if x5_1.size + (t310 ++ (rdOf ByteArray.empty l0_2 x16_1)).size ≤ 9223372036854775807 then (impl_KeySignature_leads.l0 k1 (x5_1 ++ (t310 ++ (rdOf ByteArray.empty l0_2 x16_1))) y305 (y305.length : Int) (wrap64 (x16_1 + 1)) a0_0 l0_1 l0_2 l0_3) else (none)) else (none)) else (none)) = some r:=H
         have A15:=qd9 A150
         clear A150
         by_cases c16 : x16_1 < (l0_2.length : Int)
         ·
          rw [if_pos c16] at H
          have c16b0 : decide (x16_1 < (l0_2.length : Int)) = true:=decide_eq_true c16
          clear c16
          by_cases c17 : t310.size + (rdOf ByteArray.empty l0_2 x16_1).size ≤ 9223372036854775807
          ·
           rw [if_pos c17] at H
           have c17b0:=eq_true c17
           have c17b1 : decide (t310.size + (rdOf ByteArray.empty l0_2 x16_1).size ≤ 9223372036854775807) = true:=decide_eq_true c17
           try have c17b2 : (9223372036854775807 < t310.size + (rdOf ByteArray.empty l0_2 x16_1).size) = False:=eq_false (Nat.not_lt.2 c17)
           by_cases c18 : x5_1.size + (t310 ++ (rdOf ByteArray.empty l0_2 x16_1)).size ≤ 9223372036854775807
           ·
            rw [if_pos c18] at H
            have c18b0:=eq_true c18
            have c18b1 : decide (x5_1.size + (t310 ++ (rdOf ByteArray.empty l0_2 x16_1)).size ≤ 9223372036854775807) = true:=decide_eq_true c18
            try have c18b2 : (9223372036854775807 < x5_1.size + (t310 ++ (rdOf ByteArray.empty l0_2 x16_1)).size) = False:=eq_false (Nat.not_lt.2 c18)
            (try (have c18b3:=c18;simp only [ByteArray.size_append] at c18b3;have c18b4:=eq_false (Nat.not_lt.2 c18b3)))
            have H':=qd9 H
            clear H
            have p308 : 0 ≤ (x16_1 : Int):=of_decide_eq_true (by first|(with_reducible assumption)|assumption)
            have q308 : x16_1 < (y305.length : Int):=of_decide_eq_true (by first|(with_reducible assumption)|assumption)
            obtain ⟨ad308,e308,hx308_0⟩:=Kd.at_int (Kd.R_reads' HO_14.out).2.2 x16_1 p308 q308
            cases e308
            replace p308:=eq_true p308
            replace q308:=eq_true q308
            try go_wp2
            have n0_:=qd9 (Kd.R_drew HO_14.out)
            have n1_:=qd9 (blk_drew BK303.out)
            have n2_:=qd9 (qc9 HB.out)
            clear HO_14
            clear BK303
            clear HB
            have HO_14:=n0_
            have BK303:=n1_
            have HB:=n2_
            clear n0_ n1_ n2_
            have p309 : 0 ≤ (x16_1 : Int):=of_decide_eq_true (by first|(with_reducible assumption)|assumption)
            have q309 : x16_1 < (l0_1.length : Int):=of_decide_eq_true (by first|(with_reducible assumption)|assumption)
            obtain ⟨ad309,e309,hx309_0⟩:=Kd.at_string HR0_1.out x16_1 p309 q309
            have hw309_0:=hx309_0
            cases e309
            replace hx309_0:=(HB.out.cell (World.block_lt_of_cell? w _ hx309_0)).trans hx309_0
            replace p309:=eq_true p309
            replace q309:=eq_true q309
            have p311 : 0 ≤ (x16_1 : Int):=of_decide_eq_true (by first|(with_reducible assumption)|assumption)
            have q311 : x16_1 < (l0_2.length : Int):=of_decide_eq_true (by first|(with_reducible assumption)|assumption)
            obtain ⟨ad311,e311,hx311_0⟩:=Kd.at_string HR0_2.out x16_1 p311 q311
            have hw311_0:=hx311_0
            cases e311
            replace hx311_0:=(HB.out.cell (World.block_lt_of_cell? w _ hx311_0)).trans hx311_0
            replace p311:=eq_true p311
            replace q311:=eq_true q311
            refine start_ (n:=15) (S:=fun w' => w'.cell? ⟨gb303,0,none⟩ = some (.int .i64 a0_0) ∧ w'.cell? ⟨gb303,1,none⟩ = some (.slice (some ad309) l0_1.length c0_1) ∧ w'.cell? ⟨gb303,2,none⟩ = some (.slice (some ad311) l0_2.length c0_2) ∧ w'.cell? ⟨gb303,3,none⟩ = some (.slice A0_3 l0_3.length c0_3) ∧ w'.cell? (ad309.add (x16_1).toNat) = some (.string (rdOf ByteArray.empty l0_1 x16_1)) ∧ w'.cell? (ad311.add (x16_1).toNat) = some (.string (rdOf ByteArray.empty l0_2 x16_1))) (ds:=[]) #[false,false,false,false,false,false,false,false,false,false,false,false,false,false,false] (by kernel_rfl) rfl rfl ⟨(blk_cell BK303.out 0).trans rfl,(blk_cell BK303.out 1).trans rfl,(blk_cell BK303.out 2).trans rfl,(blk_cell BK303.out 3).trans rfl,((HB.out.cell (World.block_lt_of_cell? w _ hw309_0)).trans hw309_0),((HB.out.cell (World.block_lt_of_cell? w _ hw311_0)).trans hw311_0)⟩ (fun hHeld => ?_);refine with_tabW impl_KeySignature_leads.tab6 impl_KeySignature_leads.bits6 (fun HT_ HW_ => ?_)
            generalize wr.drew = w19 at HO_14 BK303 HB hx309_0 hx311_0 hHeld ⊢
            refine pure_ (i:=0) (N:=some 23) (v:=?_) (a':=?_) #[true,false,false,false,false,false,false,false,false,false,false,false,false,false,false] rfl rfl (any_of HT_.out (by kernel_rfl)) (fun _ _ _ h => h) (Or.inl ⟨by rfl,?_⟩) ?_ ?_
            rotate_left
            ·
             intro w'
             go_simp
             with_reducible rfl
            rotate_left
            ·
             simp only [Act.put,List.setIfInBounds_toArray,List.set_cons_zero,List.set_cons_succ,i64_w,i32_w]
             rfl
            refine pure_ (i:=1) (N:=some 24) (v:=?_) (a':=?_) #[true,true,false,false,false,false,false,false,false,false,false,false,false,false,false] rfl rfl (any_of HT_.out (by kernel_rfl)) (fun _ _ _ h => h) (Or.inl ⟨by rfl,?_⟩) ?_ ?_
            rotate_left
            ·
             intro w'
             go_simp
             with_reducible rfl
            rotate_left
            ·
             simp only [Act.put,List.setIfInBounds_toArray,List.set_cons_zero,List.set_cons_succ,i64_w,i32_w]
             rfl
            refine pure_ (i:=3) (N:=some 26) (v:=?_) (a':=?_) #[true,true,false,true,false,false,false,false,false,false,false,false,false,false,false] rfl rfl (any_of HT_.out (by kernel_rfl)) (fun _ _ _ h => h) (Or.inl ⟨by rfl,?_⟩) ?_ ?_
            rotate_left
            ·
             intro w'
             go_simp
             with_reducible rfl
            rotate_left
            ·
             simp only [Act.put,List.setIfInBounds_toArray,List.set_cons_zero,List.set_cons_succ,i64_w,i32_w]
             rfl
            refine pure_ (i:=7) (N:=some 30) (v:=?_) (a':=?_) #[true,true,false,true,false,false,false,true,false,false,false,false,false,false,false] rfl rfl (any_of HT_.out (by kernel_rfl)) (fun _ _ _ h => h) (Or.inl ⟨by rfl,?_⟩) ?_ ?_
            rotate_left
            ·
             intro w'
             go_simp
             with_reducible rfl
            rotate_left
            ·
             simp only [Act.put,List.setIfInBounds_toArray,List.set_cons_zero,List.set_cons_succ,i64_w,i32_w]
             rfl
            refine pure_ (i:=9) (N:=some 32) (v:=?_) (a':=?_) #[true,true,false,true,false,false,false,true,false,true,false,false,false,false,false] rfl rfl (any_of HT_.out (by kernel_rfl)) (fun _ _ _ h => h) (Or.inl ⟨by rfl,?_⟩) ?_ ?_
            rotate_left
            ·
             intro w'
             go_simp
             with_reducible rfl
            rotate_left
            ·
             simp only [Act.put,List.setIfInBounds_toArray,List.set_cons_zero,List.set_cons_succ,i64_w,i32_w]
             rfl
            refine take_ (i:=2) (N:=some 25) (v:=?_) (a':=?_) #[true,true,true,true,false,false,false,true,false,true,false,false,false,false,false] rfl rfl (take_ofW HT_.out HW_.out (by kernel_rfl)) (fun _ _ _ h => h) (Or.inl ⟨by rfl,?_⟩) hHeld ?_ ?_
            rotate_left
            ·
             rintro w' ⟨s0,s1,s2,s3,s4,s5⟩
             go_simp
             with_reducible rfl
            rotate_left
            ·
             simp only [Act.put,List.setIfInBounds_toArray,List.set_cons_zero,List.set_cons_succ,i64_w,i32_w]
             rfl
            refine pure_ (i:=4) (N:=some 27) (v:=?_) (a':=?_) #[true,true,true,true,true,false,false,true,false,true,false,false,false,false,false] rfl rfl (any_of HT_.out (by kernel_rfl)) (fun _ _ _ h => h) (Or.inl ⟨by rfl,?_⟩) ?_ ?_
            rotate_left
            ·
             intro w'
             go_simp
             with_reducible rfl
            rotate_left
            ·
             simp only [Act.put,List.setIfInBounds_toArray,List.set_cons_zero,List.set_cons_succ,i64_w,i32_w]
             rfl
            refine take_ (i:=5) (N:=some 28) (v:=?_) (a':=?_) #[true,true,true,true,true,true,false,true,false,true,false,false,false,false,false] rfl rfl (take_ofW HT_.out HW_.out (by kernel_rfl)) (fun _ _ _ h => h) (Or.inl ⟨by rfl,?_⟩) hHeld ?_ ?_
            rotate_left
            ·
             rintro w' ⟨s0,s1,s2,s3,s4,s5⟩
             go_simp
             with_reducible rfl
            rotate_left
            ·
             simp only [Act.put,List.setIfInBounds_toArray,List.set_cons_zero,List.set_cons_succ,i64_w,i32_w]
             rfl
            refine take_ (i:=8) (N:=some 31) (v:=?_) (a':=?_) #[true,true,true,true,true,true,false,true,true,true,false,false,false,false,false] rfl rfl (take_ofW HT_.out HW_.out (by kernel_rfl)) (fun _ _ _ h => h) (Or.inl ⟨by rfl,?_⟩) hHeld ?_ ?_
            rotate_left
            ·
             rintro w' ⟨s0,s1,s2,s3,s4,s5⟩
             go_simp
             with_reducible rfl
            rotate_left
            ·
             simp only [Act.put,List.setIfInBounds_toArray,List.set_cons_zero,List.set_cons_succ,i64_w,i32_w]
             rfl
            refine pure_ (i:=10) (N:=some 33) (v:=?_) (a':=?_) #[true,true,true,true,true,true,false,true,true,true,true,false,false,false,false] rfl rfl (any_of HT_.out (by kernel_rfl)) (fun _ _ _ h => h) (Or.inl ⟨by rfl,?_⟩) ?_ ?_
            rotate_left
            ·
             intro w'
             go_simp
             with_reducible rfl
            rotate_left
            ·
             simp only [Act.put,List.setIfInBounds_toArray,List.set_cons_zero,List.set_cons_succ,i64_w,i32_w]
             rfl
            refine take_ (i:=11) (N:=some 34) (v:=?_) (a':=?_) #[true,true,true,true,true,true,false,true,true,true,true,true,false,false,false] rfl rfl (take_ofW HT_.out HW_.out (by kernel_rfl)) (fun _ _ _ h => h) (Or.inl ⟨by rfl,?_⟩) hHeld ?_ ?_
            rotate_left
            ·
             rintro w' ⟨s0,s1,s2,s3,s4,s5⟩
             go_simp
             with_reducible rfl
            rotate_left
            ·
             simp only [Act.put,List.setIfInBounds_toArray,List.set_cons_zero,List.set_cons_succ,i64_w,i32_w]
             rfl
            refine one_ (i:=6) (N:=some 29) #[true,true,true,true,true,true,true,true,true,true,true,true,false,false,false] rfl rfl (one_of HT_.out (by kernel_rfl)) (by decide) (fun K hK => ?_)
            refine goes_ Tryd.func50 (by kernel_rfl) rfl #[.string (rdOf ByteArray.empty l0_1 x16_1)] (by rfl) rfl rfl (by (try simp only [List.map_toArray,List.map_cons,List.map_nil]);first|done|rfl|(simp only [List.length_drop,List.length_take];rfl)) ?_
            with_reducible refine (impl_hash.calls (rdOf ByteArray.empty l0_1 x16_1) t310 _ ?side1 A15.out).mono ?_
            (case side1 => exact Go.Proofs.YtmkaknegjahjaaaDoor.Sha.glob_below hG_ (by repeat (first|(with_reducible first|exact HB.out|apply qa9|apply qb9|apply qc9|refine below_set ?_ GE303.out)|exact HB.out)))
            rintro e w20 ⟨rfl,hb⟩
            refine ⟨_,rfl,?_⟩
            have n0_:=qd9 (Kd.R_below (by (with_reducible repeat (first|apply Kd.R_alloc|apply Kd.R_drewN|apply Kd.R_drew));exact HO_14.out) hb)
            have n1_:=qd9 (blk_below (g:=gb303) (o:=.cells #[.int .i64 a0_0,.slice (some ad309) l0_1.length c0_1,.slice (some ad311) l0_2.length c0_2,.slice A0_3 l0_3.length c0_3] 33 (0,0)) (by (with_reducible repeat (first|apply blk_drewN|apply blk_drew|apply blk_alloc));exact BK303.out) hb)
            have n2_:=qd9 (below_step (by repeat (first|(with_reducible first|exact HB.out|apply qa9|apply qb9|apply qc9|refine below_set ?_ GE303.out)|exact HB.out)) hb)
            clear HO_14
            clear BK303
            clear HB
            have HO_14:=n0_
            have BK303:=n1_
            have HB:=n2_
            clear n0_ n1_ n2_
            (try clear hb)
            (try clear hb2)
            (try clear hk)
            (try clear hi)
            refine hK.out _ _ ⟨(blk_cell BK303.out 0).trans rfl,(blk_cell BK303.out 1).trans rfl,(blk_cell BK303.out 2).trans rfl,(blk_cell BK303.out 3).trans rfl,((HB.out.cell (World.block_lt_of_cell? w _ hw309_0)).trans hw309_0),((HB.out.cell (World.block_lt_of_cell? w _ hw311_0)).trans hw311_0)⟩ (fun hHeld => ?_)
            clear hK K
            refine norm_ (a':=?_) ?_ ?_
            rotate_left
            ·
             show Act.put _ (some 29) _ = _
             simp only [Act.put,List.setIfInBounds_toArray,List.set_cons_zero,List.set_cons_succ,i64_w,i32_w]
             rfl
            refine pure_ (i:=12) (N:=some 35) (v:=?_) (a':=?_) #[true,true,true,true,true,true,true,true,true,true,true,true,true,false,false] rfl rfl (any_of HT_.out (by kernel_rfl)) (fun _ _ _ h => h) (Or.inl ⟨by rfl,?_⟩) ?_ ?_
            rotate_left
            ·
             intro w'
             go_simp
             with_reducible rfl
            rotate_left
            ·
             simp only [Act.put,List.setIfInBounds_toArray,List.set_cons_zero,List.set_cons_succ,i64_w,i32_w]
             rfl
            refine pure_ (i:=13) (N:=some 36) (v:=?_) (a':=?_) #[true,true,true,true,true,true,true,true,true,true,true,true,true,true,false] rfl rfl (any_of HT_.out (by kernel_rfl)) (fun _ _ _ h => h) (Or.inl ⟨by rfl,?_⟩) ?_ ?_
            rotate_left
            ·
             intro w'
             go_simp
             with_reducible rfl
            rotate_left
            ·
             simp only [Act.put,List.setIfInBounds_toArray,List.set_cons_zero,List.set_cons_succ,i64_w,i32_w]
             rfl
            refine pure_ (i:=14) (N:=some 5) (v:=?_) (a':=?_) #[true,true,true,true,true,true,true,true,true,true,true,true,true,true,true] rfl rfl (any_of HT_.out (by kernel_rfl)) (fun _ _ _ h => h) (Or.inl ⟨by rfl,?_⟩) ?_ ?_
            rotate_left
            ·
             intro w'
             go_simp
             with_reducible rfl
            rotate_left
            ·
             simp only [Act.put,List.setIfInBounds_toArray,List.set_cons_zero,List.set_cons_succ,i64_w,i32_w]
             rfl
            refine done_ (done_of HT_.out (by kernel_rfl)) ?_
            try go_wp2
            go_roundg k1
            case measure => have:=HK1.out;omega
            case rel => exact ⟨(x5_1 ++ (t310 ++ (rdOf ByteArray.empty l0_2 x16_1))),(wrap64 (x16_1 + 1)),(by first|rfl|(simp;done)|(simp [*];done)),(by first|rfl|(simp;done)|(simp [*];done)),H',⟨by have:=HK1.out;omega⟩,⟨by (with_reducible repeat (first|apply Kd.R_alloc|apply Kd.R_drewN|apply Kd.R_drew));exact HO_14.out⟩,⟨by (with_reducible repeat (first|apply blk_drewN|apply blk_drew|apply blk_alloc));exact BK303.out⟩,⟨by repeat (first|(with_reducible first|exact HB.out|apply qa9|apply qb9|apply qc9|refine below_set ?_ GE303.out)|exact HB.out)⟩⟩
           ·
            rw [if_neg c18] at H
            exact absurd H (by simp)
          ·
           rw [if_neg c17] at H
           exact absurd H (by simp)
         ·
          rw [if_neg c16] at H
          exact absurd H (by simp)
        ·
         rw [if_neg c14] at H
         exact absurd H (by simp)
       ·
        rw [if_neg c13] at H
        have c13b0 : ((rd y305 x16_1) == 48) = false:=beq_eq_false_iff_ne.mpr c13
        have c13b1 : ((rd y305 x16_1) != 48) = true:=bne_iff_ne.mpr c13
        by_cases c21 : x16_1 < (l0_2.length : Int)
        ·
         rw [if_pos c21] at H
         have c21b0 : decide (x16_1 < (l0_2.length : Int)) = true:=decide_eq_true c21
         clear c21
         by_cases c22 : x16_1 < (l0_1.length : Int)
         ·
          rw [if_pos c22] at H
          have c22b0 : decide (x16_1 < (l0_1.length : Int)) = true:=decide_eq_true c22
          clear c22
          replace H:=Option.bind_eq_some_iff.mp H
          obtain ⟨t314,A230,H⟩:=H
          replace H : (if (rdOf ByteArray.empty l0_2 x16_1).size + t314.size ≤ 9223372036854775807 then (if x5_1.size + ((rdOf ByteArray.empty l0_2 x16_1) ++ t314).size ≤ 9223372036854775807 then (impl_KeySignature_leads.l0 k1 (x5_1 ++ ((rdOf ByteArray.empty l0_2 x16_1) ++ t314)) y305 (y305.length : Int) (wrap64 (x16_1 + 1)) a0_0 l0_1 l0_2 l0_3) else (none)) else (none)) = some r:=H
          have A23:=qd9 A230
          clear A230
          by_cases c24 : (rdOf ByteArray.empty l0_2 x16_1).size + t314.size ≤ 9223372036854775807
          ·
           rw [if_pos c24] at H
           have c24b0:=eq_true c24
           have c24b1 : decide ((rdOf ByteArray.empty l0_2 x16_1).size + t314.size ≤ 9223372036854775807) = true:=decide_eq_true c24
           try have c24b2 : (9223372036854775807 < (rdOf ByteArray.empty l0_2 x16_1).size + t314.size) = False:=eq_false (Nat.not_lt.2 c24)
           by_cases c25 : x5_1.size + ((rdOf ByteArray.empty l0_2 x16_1) ++ t314).size ≤ 9223372036854775807
           ·
            rw [if_pos c25] at H
            have c25b0:=eq_true c25
            have c25b1 : decide (x5_1.size + ((rdOf ByteArray.empty l0_2 x16_1) ++ t314).size ≤ 9223372036854775807) = true:=decide_eq_true c25
            try have c25b2 : (9223372036854775807 < x5_1.size + ((rdOf ByteArray.empty l0_2 x16_1) ++ t314).size) = False:=eq_false (Nat.not_lt.2 c25)
            (try (have c25b3:=c25;simp only [ByteArray.size_append] at c25b3;have c25b4:=eq_false (Nat.not_lt.2 c25b3)))
            have H':=qd9 H
            clear H
            have p308 : 0 ≤ (x16_1 : Int):=of_decide_eq_true (by first|(with_reducible assumption)|assumption)
            have q308 : x16_1 < (y305.length : Int):=of_decide_eq_true (by first|(with_reducible assumption)|assumption)
            obtain ⟨ad308,e308,hx308_0⟩:=Kd.at_int (Kd.R_reads' HO_14.out).2.2 x16_1 p308 q308
            cases e308
            replace p308:=eq_true p308
            replace q308:=eq_true q308
            try go_wp2
            have n0_:=qd9 (Kd.R_drew HO_14.out)
            have n1_:=qd9 (blk_drew BK303.out)
            have n2_:=qd9 (qc9 HB.out)
            clear HO_14
            clear BK303
            clear HB
            have HO_14:=n0_
            have BK303:=n1_
            have HB:=n2_
            clear n0_ n1_ n2_
            have p312 : 0 ≤ (x16_1 : Int):=of_decide_eq_true (by first|(with_reducible assumption)|assumption)
            have q312 : x16_1 < (l0_2.length : Int):=of_decide_eq_true (by first|(with_reducible assumption)|assumption)
            obtain ⟨ad312,e312,hx312_0⟩:=Kd.at_string HR0_2.out x16_1 p312 q312
            have hw312_0:=hx312_0
            cases e312
            replace hx312_0:=(HB.out.cell (World.block_lt_of_cell? w _ hx312_0)).trans hx312_0
            replace p312:=eq_true p312
            replace q312:=eq_true q312
            have p313 : 0 ≤ (x16_1 : Int):=of_decide_eq_true (by first|(with_reducible assumption)|assumption)
            have q313 : x16_1 < (l0_1.length : Int):=of_decide_eq_true (by first|(with_reducible assumption)|assumption)
            obtain ⟨ad313,e313,hx313_0⟩:=Kd.at_string HR0_1.out x16_1 p313 q313
            have hw313_0:=hx313_0
            cases e313
            replace hx313_0:=(HB.out.cell (World.block_lt_of_cell? w _ hx313_0)).trans hx313_0
            replace p313:=eq_true p313
            replace q313:=eq_true q313
            refine start_ (n:=15) (S:=fun w' => w'.cell? ⟨gb303,0,none⟩ = some (.int .i64 a0_0) ∧ w'.cell? ⟨gb303,1,none⟩ = some (.slice (some ad313) l0_1.length c0_1) ∧ w'.cell? ⟨gb303,2,none⟩ = some (.slice (some ad312) l0_2.length c0_2) ∧ w'.cell? ⟨gb303,3,none⟩ = some (.slice A0_3 l0_3.length c0_3) ∧ w'.cell? (ad312.add (x16_1).toNat) = some (.string (rdOf ByteArray.empty l0_2 x16_1)) ∧ w'.cell? (ad313.add (x16_1).toNat) = some (.string (rdOf ByteArray.empty l0_1 x16_1))) (ds:=[]) #[false,false,false,false,false,false,false,false,false,false,false,false,false,false,false] (by kernel_rfl) rfl rfl ⟨(blk_cell BK303.out 0).trans rfl,(blk_cell BK303.out 1).trans rfl,(blk_cell BK303.out 2).trans rfl,(blk_cell BK303.out 3).trans rfl,((HB.out.cell (World.block_lt_of_cell? w _ hw312_0)).trans hw312_0),((HB.out.cell (World.block_lt_of_cell? w _ hw313_0)).trans hw313_0)⟩ (fun hHeld => ?_);refine with_tabW impl_KeySignature_leads.tab7 impl_KeySignature_leads.bits7 (fun HT_ HW_ => ?_)
            generalize wr.drew = w26 at HO_14 BK303 HB hx312_0 hx313_0 hHeld ⊢
            refine pure_ (i:=0) (N:=some 37) (v:=?_) (a':=?_) #[true,false,false,false,false,false,false,false,false,false,false,false,false,false,false] rfl rfl (any_of HT_.out (by kernel_rfl)) (fun _ _ _ h => h) (Or.inl ⟨by rfl,?_⟩) ?_ ?_
            rotate_left
            ·
             intro w'
             go_simp
             with_reducible rfl
            rotate_left
            ·
             simp only [Act.put,List.setIfInBounds_toArray,List.set_cons_zero,List.set_cons_succ,i64_w,i32_w]
             rfl
            refine pure_ (i:=1) (N:=some 38) (v:=?_) (a':=?_) #[true,true,false,false,false,false,false,false,false,false,false,false,false,false,false] rfl rfl (any_of HT_.out (by kernel_rfl)) (fun _ _ _ h => h) (Or.inl ⟨by rfl,?_⟩) ?_ ?_
            rotate_left
            ·
             intro w'
             go_simp
             with_reducible rfl
            rotate_left
            ·
             simp only [Act.put,List.setIfInBounds_toArray,List.set_cons_zero,List.set_cons_succ,i64_w,i32_w]
             rfl
            refine pure_ (i:=3) (N:=some 40) (v:=?_) (a':=?_) #[true,true,false,true,false,false,false,false,false,false,false,false,false,false,false] rfl rfl (any_of HT_.out (by kernel_rfl)) (fun _ _ _ h => h) (Or.inl ⟨by rfl,?_⟩) ?_ ?_
            rotate_left
            ·
             intro w'
             go_simp
             with_reducible rfl
            rotate_left
            ·
             simp only [Act.put,List.setIfInBounds_toArray,List.set_cons_zero,List.set_cons_succ,i64_w,i32_w]
             rfl
            refine pure_ (i:=6) (N:=some 43) (v:=?_) (a':=?_) #[true,true,false,true,false,false,true,false,false,false,false,false,false,false,false] rfl rfl (any_of HT_.out (by kernel_rfl)) (fun _ _ _ h => h) (Or.inl ⟨by rfl,?_⟩) ?_ ?_
            rotate_left
            ·
             intro w'
             go_simp
             with_reducible rfl
            rotate_left
            ·
             simp only [Act.put,List.setIfInBounds_toArray,List.set_cons_zero,List.set_cons_succ,i64_w,i32_w]
             rfl
            refine pure_ (i:=8) (N:=some 45) (v:=?_) (a':=?_) #[true,true,false,true,false,false,true,false,true,false,false,false,false,false,false] rfl rfl (any_of HT_.out (by kernel_rfl)) (fun _ _ _ h => h) (Or.inl ⟨by rfl,?_⟩) ?_ ?_
            rotate_left
            ·
             intro w'
             go_simp
             with_reducible rfl
            rotate_left
            ·
             simp only [Act.put,List.setIfInBounds_toArray,List.set_cons_zero,List.set_cons_succ,i64_w,i32_w]
             rfl
            refine take_ (i:=2) (N:=some 39) (v:=?_) (a':=?_) #[true,true,true,true,false,false,true,false,true,false,false,false,false,false,false] rfl rfl (take_ofW HT_.out HW_.out (by kernel_rfl)) (fun _ _ _ h => h) (Or.inl ⟨by rfl,?_⟩) hHeld ?_ ?_
            rotate_left
            ·
             rintro w' ⟨s0,s1,s2,s3,s4,s5⟩
             go_simp
             with_reducible rfl
            rotate_left
            ·
             simp only [Act.put,List.setIfInBounds_toArray,List.set_cons_zero,List.set_cons_succ,i64_w,i32_w]
             rfl
            refine pure_ (i:=4) (N:=some 41) (v:=?_) (a':=?_) #[true,true,true,true,true,false,true,false,true,false,false,false,false,false,false] rfl rfl (any_of HT_.out (by kernel_rfl)) (fun _ _ _ h => h) (Or.inl ⟨by rfl,?_⟩) ?_ ?_
            rotate_left
            ·
             intro w'
             go_simp
             with_reducible rfl
            rotate_left
            ·
             simp only [Act.put,List.setIfInBounds_toArray,List.set_cons_zero,List.set_cons_succ,i64_w,i32_w]
             rfl
            refine take_ (i:=5) (N:=some 42) (v:=?_) (a':=?_) #[true,true,true,true,true,true,true,false,true,false,false,false,false,false,false] rfl rfl (take_ofW HT_.out HW_.out (by kernel_rfl)) (fun _ _ _ h => h) (Or.inl ⟨by rfl,?_⟩) hHeld ?_ ?_
            rotate_left
            ·
             rintro w' ⟨s0,s1,s2,s3,s4,s5⟩
             go_simp
             with_reducible rfl
            rotate_left
            ·
             simp only [Act.put,List.setIfInBounds_toArray,List.set_cons_zero,List.set_cons_succ,i64_w,i32_w]
             rfl
            refine take_ (i:=7) (N:=some 44) (v:=?_) (a':=?_) #[true,true,true,true,true,true,true,true,true,false,false,false,false,false,false] rfl rfl (take_ofW HT_.out HW_.out (by kernel_rfl)) (fun _ _ _ h => h) (Or.inl ⟨by rfl,?_⟩) hHeld ?_ ?_
            rotate_left
            ·
             rintro w' ⟨s0,s1,s2,s3,s4,s5⟩
             go_simp
             with_reducible rfl
            rotate_left
            ·
             simp only [Act.put,List.setIfInBounds_toArray,List.set_cons_zero,List.set_cons_succ,i64_w,i32_w]
             rfl
            refine pure_ (i:=9) (N:=some 46) (v:=?_) (a':=?_) #[true,true,true,true,true,true,true,true,true,true,false,false,false,false,false] rfl rfl (any_of HT_.out (by kernel_rfl)) (fun _ _ _ h => h) (Or.inl ⟨by rfl,?_⟩) ?_ ?_
            rotate_left
            ·
             intro w'
             go_simp
             with_reducible rfl
            rotate_left
            ·
             simp only [Act.put,List.setIfInBounds_toArray,List.set_cons_zero,List.set_cons_succ,i64_w,i32_w]
             rfl
            refine take_ (i:=10) (N:=some 47) (v:=?_) (a':=?_) #[true,true,true,true,true,true,true,true,true,true,true,false,false,false,false] rfl rfl (take_ofW HT_.out HW_.out (by kernel_rfl)) (fun _ _ _ h => h) (Or.inl ⟨by rfl,?_⟩) hHeld ?_ ?_
            rotate_left
            ·
             rintro w' ⟨s0,s1,s2,s3,s4,s5⟩
             go_simp
             with_reducible rfl
            rotate_left
            ·
             simp only [Act.put,List.setIfInBounds_toArray,List.set_cons_zero,List.set_cons_succ,i64_w,i32_w]
             rfl
            refine one_ (i:=11) (N:=some 48) #[true,true,true,true,true,true,true,true,true,true,true,true,false,false,false] rfl rfl (one_of HT_.out (by kernel_rfl)) (by decide) (fun K hK => ?_)
            refine goes_ Tryd.func50 (by kernel_rfl) rfl #[.string (rdOf ByteArray.empty l0_1 x16_1)] (by rfl) rfl rfl (by (try simp only [List.map_toArray,List.map_cons,List.map_nil]);first|done|rfl|(simp only [List.length_drop,List.length_take];rfl)) ?_
            with_reducible refine (impl_hash.calls (rdOf ByteArray.empty l0_1 x16_1) t314 _ ?side1 A23.out).mono ?_
            (case side1 => exact Go.Proofs.YtmkaknegjahjaaaDoor.Sha.glob_below hG_ (by repeat (first|(with_reducible first|exact HB.out|apply qa9|apply qb9|apply qc9|refine below_set ?_ GE303.out)|exact HB.out)))
            rintro e w27 ⟨rfl,hb⟩
            refine ⟨_,rfl,?_⟩
            have n0_:=qd9 (Kd.R_below (by (with_reducible repeat (first|apply Kd.R_alloc|apply Kd.R_drewN|apply Kd.R_drew));exact HO_14.out) hb)
            have n1_:=qd9 (blk_below (g:=gb303) (o:=.cells #[.int .i64 a0_0,.slice (some ad313) l0_1.length c0_1,.slice (some ad312) l0_2.length c0_2,.slice A0_3 l0_3.length c0_3] 33 (0,0)) (by (with_reducible repeat (first|apply blk_drewN|apply blk_drew|apply blk_alloc));exact BK303.out) hb)
            have n2_:=qd9 (below_step (by repeat (first|(with_reducible first|exact HB.out|apply qa9|apply qb9|apply qc9|refine below_set ?_ GE303.out)|exact HB.out)) hb)
            clear HO_14
            clear BK303
            clear HB
            have HO_14:=n0_
            have BK303:=n1_
            have HB:=n2_
            clear n0_ n1_ n2_
            (try clear hb)
            (try clear hb2)
            (try clear hk)
            (try clear hi)
            refine hK.out _ _ ⟨(blk_cell BK303.out 0).trans rfl,(blk_cell BK303.out 1).trans rfl,(blk_cell BK303.out 2).trans rfl,(blk_cell BK303.out 3).trans rfl,((HB.out.cell (World.block_lt_of_cell? w _ hw312_0)).trans hw312_0),((HB.out.cell (World.block_lt_of_cell? w _ hw313_0)).trans hw313_0)⟩ (fun hHeld => ?_)
            clear hK K
            refine norm_ (a':=?_) ?_ ?_
            rotate_left
            ·
             show Act.put _ (some 48) _ = _
             simp only [Act.put,List.setIfInBounds_toArray,List.set_cons_zero,List.set_cons_succ,i64_w,i32_w]
             rfl
            refine pure_ (i:=12) (N:=some 49) (v:=?_) (a':=?_) #[true,true,true,true,true,true,true,true,true,true,true,true,true,false,false] rfl rfl (any_of HT_.out (by kernel_rfl)) (fun _ _ _ h => h) (Or.inl ⟨by rfl,?_⟩) ?_ ?_
            rotate_left
            ·
             intro w'
             go_simp
             with_reducible rfl
            rotate_left
            ·
             simp only [Act.put,List.setIfInBounds_toArray,List.set_cons_zero,List.set_cons_succ,i64_w,i32_w]
             rfl
            refine pure_ (i:=13) (N:=some 50) (v:=?_) (a':=?_) #[true,true,true,true,true,true,true,true,true,true,true,true,true,true,false] rfl rfl (any_of HT_.out (by kernel_rfl)) (fun _ _ _ h => h) (Or.inl ⟨by rfl,?_⟩) ?_ ?_
            rotate_left
            ·
             intro w'
             go_simp
             with_reducible rfl
            rotate_left
            ·
             simp only [Act.put,List.setIfInBounds_toArray,List.set_cons_zero,List.set_cons_succ,i64_w,i32_w]
             rfl
            refine pure_ (i:=14) (N:=some 5) (v:=?_) (a':=?_) #[true,true,true,true,true,true,true,true,true,true,true,true,true,true,true] rfl rfl (any_of HT_.out (by kernel_rfl)) (fun _ _ _ h => h) (Or.inl ⟨by rfl,?_⟩) ?_ ?_
            rotate_left
            ·
             intro w'
             go_simp
             with_reducible rfl
            rotate_left
            ·
             simp only [Act.put,List.setIfInBounds_toArray,List.set_cons_zero,List.set_cons_succ,i64_w,i32_w]
             rfl
            refine done_ (done_of HT_.out (by kernel_rfl)) ?_
            try go_wp2
            go_roundg k1
            case measure => have:=HK1.out;omega
            case rel => exact ⟨(x5_1 ++ ((rdOf ByteArray.empty l0_2 x16_1) ++ t314)),(wrap64 (x16_1 + 1)),(by first|rfl|(simp;done)|(simp [*];done)),(by first|rfl|(simp;done)|(simp [*];done)),H',⟨by have:=HK1.out;omega⟩,⟨by (with_reducible repeat (first|apply Kd.R_alloc|apply Kd.R_drewN|apply Kd.R_drew));exact HO_14.out⟩,⟨by (with_reducible repeat (first|apply blk_drewN|apply blk_drew|apply blk_alloc));exact BK303.out⟩,⟨by repeat (first|(with_reducible first|exact HB.out|apply qa9|apply qb9|apply qc9|refine below_set ?_ GE303.out)|exact HB.out)⟩⟩
           ·
            rw [if_neg c25] at H
            exact absurd H (by simp)
          ·
           rw [if_neg c24] at H
           exact absurd H (by simp)
         ·
          rw [if_neg c22] at H
          exact absurd H (by simp)
        ·
         rw [if_neg c21] at H
         exact absurd H (by simp)
      ·
       rw [if_neg c12] at H
       exact absurd H (by simp)
     ·
      rw [if_neg c11] at H
      exact absurd H (by simp)
    ·
     rw [if_neg c10] at H
     have c10b0 : decide (x16_1 < (y305.length : Int)) = false:=decide_eq_false c10
     clear c10
     replace H:=Option.bind_eq_some_iff.mp H
     obtain ⟨t315,A280,H⟩:=H
     replace H : (impl_KeySignature_leads.l1 k1 t315 a0_0 l0_3 (l0_3.length : Int) 0) = some r:=H
     have A28:=qd9 A280
     clear A280
     have H':=qd9 H
     clear H
     try go_wp2
     have n0_:=qd9 (Kd.R_drew HO_14.out)
     have n1_:=qd9 (blk_drew BK303.out)
     have n2_:=qd9 (qc9 HB.out)
     clear HO_14
     clear BK303
     clear HB
     have HO_14:=n0_
     have BK303:=n1_
     have HB:=n2_
     clear n0_ n1_ n2_
     refine start_ (n:=6) (S:=fun w' => w'.cell? ⟨gb303,0,none⟩ = some (.int .i64 a0_0) ∧ w'.cell? ⟨gb303,1,none⟩ = some (.slice A0_1 l0_1.length c0_1) ∧ w'.cell? ⟨gb303,2,none⟩ = some (.slice A0_2 l0_2.length c0_2) ∧ w'.cell? ⟨gb303,3,none⟩ = some (.slice A0_3 l0_3.length c0_3)) (ds:=[]) #[false,false,false,false,false,false] (by kernel_rfl) rfl rfl ⟨(blk_cell BK303.out 0).trans rfl,(blk_cell BK303.out 1).trans rfl,(blk_cell BK303.out 2).trans rfl,(blk_cell BK303.out 3).trans rfl⟩ (fun hHeld => ?_)
     generalize wr.drew = w29 at HO_14 BK303 HB hHeld ⊢
     refine pure_ (i:=0) (N:=some 52) (v:=?_) (a':=?_) #[true,false,false,false,false,false] rfl rfl (by kernel_rfl) (fun _ _ _ h => h) (Or.inl ⟨by rfl,?_⟩) ?_ ?_
     rotate_left
     ·
      intro w'
      go_simp
      with_reducible rfl
     rotate_left
     ·
      simp only [Act.put,List.setIfInBounds_toArray,List.set_cons_zero,List.set_cons_succ,i64_w,i32_w]
      rfl
     refine pure_ (i:=2) (N:=some 54) (v:=?_) (a':=?_) #[true,false,true,false,false,false] rfl rfl (by kernel_rfl) (fun _ _ _ h => h) (Or.inl ⟨by rfl,?_⟩) ?_ ?_
     rotate_left
     ·
      intro w'
      go_simp
      with_reducible rfl
     rotate_left
     ·
      simp only [Act.put,List.setIfInBounds_toArray,List.set_cons_zero,List.set_cons_succ,i64_w,i32_w]
      rfl
     refine take_ (i:=3) (N:=some 55) (v:=?_) (a':=?_) #[true,false,true,true,false,false] rfl rfl (by kernel_rfl) (fun _ _ _ h => h) (Or.inl ⟨by rfl,?_⟩) hHeld ?_ ?_
     rotate_left
     ·
      rintro w' ⟨s0,s1,s2,s3⟩
      go_simp
      with_reducible rfl
     rotate_left
     ·
      simp only [Act.put,List.setIfInBounds_toArray,List.set_cons_zero,List.set_cons_succ,i64_w,i32_w]
      rfl
     refine one_ (i:=1) (N:=some 53) #[true,true,true,true,false,false] rfl rfl (by kernel_rfl) (by decide) (fun K hK => ?_)
     refine goes_ Tryd.func50 (by kernel_rfl) rfl #[.string x5_1] (by rfl) rfl rfl (by (try simp only [List.map_toArray,List.map_cons,List.map_nil]);first|done|rfl|(simp only [List.length_drop,List.length_take];rfl)) ?_
     with_reducible refine (impl_hash.calls x5_1 t315 _ ?side1 A28.out).mono ?_
     (case side1 => exact Go.Proofs.YtmkaknegjahjaaaDoor.Sha.glob_below hG_ (by repeat (first|(with_reducible first|exact HB.out|apply qa9|apply qb9|apply qc9|refine below_set ?_ GE303.out)|exact HB.out)))
     rintro e w30 ⟨rfl,hb⟩
     refine ⟨_,rfl,?_⟩
     have n0_:=qd9 (Kd.R_below (by (with_reducible repeat (first|apply Kd.R_alloc|apply Kd.R_drewN|apply Kd.R_drew));exact HO_14.out) hb)
     have n1_:=qd9 (blk_below (g:=gb303) (o:=.cells #[.int .i64 a0_0,.slice A0_1 l0_1.length c0_1,.slice A0_2 l0_2.length c0_2,.slice A0_3 l0_3.length c0_3] 33 (0,0)) (by (with_reducible repeat (first|apply blk_drewN|apply blk_drew|apply blk_alloc));exact BK303.out) hb)
     have n2_:=qd9 (below_step (by repeat (first|(with_reducible first|exact HB.out|apply qa9|apply qb9|apply qc9|refine below_set ?_ GE303.out)|exact HB.out)) hb)
     clear HO_14
     clear BK303
     clear HB
     have HO_14:=n0_
     have BK303:=n1_
     have HB:=n2_
     clear n0_ n1_ n2_
     (try clear hb)
     (try clear hb2)
     (try clear hk)
     (try clear hi)
     refine hK.out _ _ ⟨(blk_cell BK303.out 0).trans rfl,(blk_cell BK303.out 1).trans rfl,(blk_cell BK303.out 2).trans rfl,(blk_cell BK303.out 3).trans rfl⟩ (fun hHeld => ?_)
     clear hK K
     refine norm_ (a':=?_) ?_ ?_
     rotate_left
     ·
      show Act.put _ (some 53) _ = _
      simp only [Act.put,List.setIfInBounds_toArray,List.set_cons_zero,List.set_cons_succ,i64_w,i32_w]
      rfl
     refine pure_ (i:=4) (N:=some 8) (v:=?_) (a':=?_) #[true,true,true,true,true,false] rfl rfl (by kernel_rfl) (fun _ _ _ h => h) (Or.inl ⟨by rfl,?_⟩) ?_ ?_
     rotate_left
     ·
      intro w'
      go_simp
      with_reducible rfl
     rotate_left
     ·
      simp only [Act.put,List.setIfInBounds_toArray,List.set_cons_zero,List.set_cons_succ,i64_w,i32_w]
      rfl
     refine pure_ (i:=5) (N:=some 9) (v:=?_) (a':=?_) #[true,true,true,true,true,true] rfl rfl (by kernel_rfl) (fun _ _ _ h => h) (Or.inl ⟨by rfl,?_⟩) ?_ ?_
     rotate_left
     ·
      intro w'
      go_simp
      with_reducible rfl
     rotate_left
     ·
      simp only [Act.put,List.setIfInBounds_toArray,List.set_cons_zero,List.set_cons_succ,i64_w,i32_w]
      rfl
     refine done_ (by kernel_rfl) ?_
     have hcz31_0 : w30.cell? ⟨gb303,0,none⟩ = some (.int .i64 a0_0):=(blk_cell BK303.out 0).trans rfl
     have hcz31_1 : w30.cell? ⟨gb303,1,none⟩ = some (.slice A0_1 l0_1.length c0_1):=(blk_cell BK303.out 1).trans rfl
     have hcz31_2 : w30.cell? ⟨gb303,2,none⟩ = some (.slice A0_2 l0_2.length c0_2):=(blk_cell BK303.out 2).trans rfl
     have hcz31_3 : w30.cell? ⟨gb303,3,none⟩ = some (.slice A0_3 l0_3.length c0_3):=(blk_cell BK303.out 3).trans rfl
     have hfz31_0:=blk_frozen BK303.out 0
     have hfz31_1:=blk_frozen BK303.out 1
     have hfz31_2:=blk_frozen BK303.out 2
     have hfz31_3:=blk_frozen BK303.out 3
     try go_wp2
     go_loopg [8,9,59] k1 (fun kq v8 v9 v59 w' => ∃ (x8_2 : ByteArray) (x9_2 : Int) (x59_2 : Int),v8 = .string x8_2 ∧ v9 = .int .i64 x9_2 ∧ v59 = .int .i64 x59_2 ∧ Aside0 (impl_KeySignature_leads.l1 kq x8_2 x9_2 l0_3 (l0_3.length : Int) x59_2 = some r) ∧ Aside0 (kq ≤ k1) ∧ Aside0 (w'.heap[gb303]? = some (.cells #[.int .i64 a0_0,(.slice A0_1 l0_1.length c0_1),(.slice A0_2 l0_2.length c0_2),(.slice A0_3 l0_3.length c0_3)] 33 (0,0))) ∧ Aside0 (Below w.heap.size w w'))
     case atStart => exact ⟨(t315),(a0_0),(0),(by first|rfl|(simp;done)|(simp [*];done)),(by first|rfl|(simp;done)|(simp [*];done)),(by first|rfl|(simp;done)|(simp [*];done)),H',⟨Nat.le_refl _⟩,⟨by (with_reducible repeat (first|apply blk_drewN|apply blk_drew|apply blk_alloc));exact BK303.out⟩,⟨by repeat (first|(with_reducible first|exact HB.out|apply qa9|apply qb9|apply qc9|refine below_set ?_ GE303.out)|exact HB.out)⟩⟩
     case round =>
      clear H'
      try clear c1
      try clear c2
      try clear p2
      try clear p3
      try clear q3
      try clear hx3
      try clear c4
      try clear c4b0
      try clear c4b1
      try clear c4b2
      try clear c5
      try clear p6
      try clear c7
      try clear c10
      try clear c10b0
      try clear c11
      try clear c11b0
      try clear c12
      try clear c12b0
      try clear c13
      try clear c13b0
      try clear c13b1
      try clear c14
      try clear c14b0
      try clear c16
      try clear c16b0
      try clear c17
      try clear c17b0
      try clear c17b1
      try clear c17b2
      try clear c18
      try clear c18b0
      try clear c18b1
      try clear c18b2
      try clear c21
      try clear c21b0
      try clear c22
      try clear c22b0
      try clear c24
      try clear c24b0
      try clear c24b1
      try clear c24b2
      try clear c25
      try clear c25b0
      try clear c25b1
      try clear c25b2
      try clear p30
      try clear q30
      try clear hx30
      try clear p31
      try clear q31
      try clear hx31
      try clear hcz31_0
      try clear hcz31_1
      try clear hcz31_2
      try clear hcz31_3
      try clear hfz31_0
      try clear hfz31_1
      try clear hfz31_2
      try clear hfz31_3
      try clear hx308_0
      try clear hx309_0
      try clear hx311_0
      try clear hx312_0
      try clear hx313_0
      try clear p2
      try clear p308
      try clear p309
      try clear p311
      try clear p312
      try clear p313
      try clear q308
      try clear q309
      try clear q311
      try clear q312
      try clear q313
      obtain ⟨x8_2,x9_2,x59_2,rfl,rfl,rfl,HA,HK2,BK303,HB⟩:=hrel
      cases gk with
      | zero => exact absurd HA.out (by simp [impl_KeySignature_leads.l1])
      | succ k2 =>
       have H:=HA.out
       clear HA
       simp only [impl_KeySignature_leads.l1] at H
       by_cases c32 : x59_2 < (l0_3.length : Int)
       ·
        rw [if_pos c32] at H
        have c32b0 : decide (x59_2 < (l0_3.length : Int)) = true:=decide_eq_true c32
        clear c32
        by_cases c33 : 0 ≤ x59_2
        ·
         rw [if_pos c33] at H
         have c33b0 : decide (0 ≤ x59_2) = true:=decide_eq_true c33
         clear c33
         by_cases c34 : x59_2 < (l0_3.length : Int)
         ·
          rw [if_pos c34] at H
          have c34b0 : decide (x59_2 < (l0_3.length : Int)) = true:=decide_eq_true c34
          clear c34
          by_cases c35 : (Int.tmod x9_2 2) = 0
          ·
           rw [if_pos c35] at H
           have c35b0 : ((Int.tmod x9_2 2) == 0) = true:=beq_iff_eq.mpr c35
           have c35b1 : ((Int.tmod x9_2 2) != 0) = false:=bne_eq_false_iff_eq.mpr c35
           clear c35
           replace H:=Option.bind_eq_some_iff.mp H
           obtain ⟨t317,A360,H⟩:=H
           replace H : (impl_KeySignature_leads.l1 k2 t317 (wrap64 (Int.tdiv x9_2 2)) l0_3 (l0_3.length : Int) (wrap64 (x59_2 + 1))) = some r:=H
           have A36:=qd9 A360
           clear A360
           have H':=qd9 H
           clear H
           have p316 : 0 ≤ (x59_2 : Int):=of_decide_eq_true (by first|(with_reducible assumption)|assumption)
           have q316 : x59_2 < (l0_3.length : Int):=of_decide_eq_true (by first|(with_reducible assumption)|assumption)
           obtain ⟨ad316,e316,hx316_0⟩:=Kd.at_string HR0_3.out x59_2 p316 q316
           cases e316
           replace hx316_0:=(HB.out.cell (World.block_lt_of_cell? w _ hx316_0)).trans hx316_0
           replace p316:=eq_true p316
           replace q316:=eq_true q316
           go_wp2_with (first|((with_reducible refine gate_callee (f:=113) rfl ?_);refine goesL_ (some 68) rfl rfl Tryd.func113 (by kernel_rfl) rfl #[.string x8_2,.string (rdOf ByteArray.empty l0_3 x59_2)] rfl (by (try simp only [List.map_toArray,List.map_cons,List.map_nil]);first|done|rfl|(simp only [List.length_drop,List.length_take];rfl)) ?_;(with_reducible refine (impl_node.calls x8_2 (rdOf ByteArray.empty l0_3 x59_2) t317 _ ?side1 A36.out).mono ?_);(case side1 => exact Go.Proofs.YtmkaknegjahjaaaDoor.Sha.glob_below hG_ (by repeat (first|(with_reducible first|exact HB.out|apply qa9|apply qb9|apply qc9|refine below_set ?_ GE303.out)|exact HB.out)));rintro e w37 ⟨rfl,hb⟩;refine ⟨_,rfl,?_⟩;have n0_:=qd9 (blk_below (g:=gb303) (o:=.cells #[.int .i64 a0_0,.slice A0_1 l0_1.length c0_1,.slice A0_2 l0_2.length c0_2,.slice (some ad316) l0_3.length c0_3] 33 (0,0)) (by (with_reducible repeat (first|apply blk_drewN|apply blk_drew|apply blk_alloc));exact BK303.out) hb);have n1_:=qd9 (below_step (by repeat (first|(with_reducible first|exact HB.out|apply qa9|apply qb9|apply qc9|refine below_set ?_ GE303.out)|exact HB.out)) hb);clear BK303;clear HB;have BK303:=n0_;have HB:=n1_;clear n0_ n1_;(try clear hb);(try clear hb2);(try clear hk);(try clear hi)))
           go_roundg k2
           case measure => have:=HK1.out;have:=HK2.out;omega
           case rel => exact ⟨(t317),(wrap64 (Int.tdiv x9_2 2)),(wrap64 (x59_2 + 1)),(by first|rfl|(simp;done)|(simp [*];done)),(by first|rfl|(simp;done)|(simp [*];done)),(by first|rfl|(simp;done)|(simp [*];done)),H',⟨by have:=HK1.out;have:=HK2.out;omega⟩,⟨by (with_reducible repeat (first|apply blk_drewN|apply blk_drew|apply blk_alloc));exact BK303.out⟩,⟨by repeat (first|(with_reducible first|exact HB.out|apply qa9|apply qb9|apply qc9|refine below_set ?_ GE303.out)|exact HB.out)⟩⟩
          ·
           rw [if_neg c35] at H
           have c35b0 : ((Int.tmod x9_2 2) == 0) = false:=beq_eq_false_iff_ne.mpr c35
           have c35b1 : ((Int.tmod x9_2 2) != 0) = true:=bne_iff_ne.mpr c35
           replace H:=Option.bind_eq_some_iff.mp H
           obtain ⟨t318,A380,H⟩:=H
           replace H : (impl_KeySignature_leads.l1 k2 t318 (wrap64 (Int.tdiv x9_2 2)) l0_3 (l0_3.length : Int) (wrap64 (x59_2 + 1))) = some r:=H
           have A38:=qd9 A380
           clear A380
           have H':=qd9 H
           clear H
           have p316 : 0 ≤ (x59_2 : Int):=of_decide_eq_true (by first|(with_reducible assumption)|assumption)
           have q316 : x59_2 < (l0_3.length : Int):=of_decide_eq_true (by first|(with_reducible assumption)|assumption)
           obtain ⟨ad316,e316,hx316_0⟩:=Kd.at_string HR0_3.out x59_2 p316 q316
           cases e316
           replace hx316_0:=(HB.out.cell (World.block_lt_of_cell? w _ hx316_0)).trans hx316_0
           replace p316:=eq_true p316
           replace q316:=eq_true q316
           go_wp2_with (first|((with_reducible refine gate_callee (f:=113) rfl ?_);refine goesL_ (some 71) rfl rfl Tryd.func113 (by kernel_rfl) rfl #[.string (rdOf ByteArray.empty l0_3 x59_2),.string x8_2] rfl (by (try simp only [List.map_toArray,List.map_cons,List.map_nil]);first|done|rfl|(simp only [List.length_drop,List.length_take];rfl)) ?_;(with_reducible refine (impl_node.calls (rdOf ByteArray.empty l0_3 x59_2) x8_2 t318 _ ?side1 A38.out).mono ?_);(case side1 => exact Go.Proofs.YtmkaknegjahjaaaDoor.Sha.glob_below hG_ (by repeat (first|(with_reducible first|exact HB.out|apply qa9|apply qb9|apply qc9|refine below_set ?_ GE303.out)|exact HB.out)));rintro e w39 ⟨rfl,hb⟩;refine ⟨_,rfl,?_⟩;have n0_:=qd9 (blk_below (g:=gb303) (o:=.cells #[.int .i64 a0_0,.slice A0_1 l0_1.length c0_1,.slice A0_2 l0_2.length c0_2,.slice (some ad316) l0_3.length c0_3] 33 (0,0)) (by (with_reducible repeat (first|apply blk_drewN|apply blk_drew|apply blk_alloc));exact BK303.out) hb);have n1_:=qd9 (below_step (by repeat (first|(with_reducible first|exact HB.out|apply qa9|apply qb9|apply qc9|refine below_set ?_ GE303.out)|exact HB.out)) hb);clear BK303;clear HB;have BK303:=n0_;have HB:=n1_;clear n0_ n1_;(try clear hb);(try clear hb2);(try clear hk);(try clear hi)))
           go_roundg k2
           case measure => have:=HK1.out;have:=HK2.out;omega
           case rel => exact ⟨(t318),(wrap64 (Int.tdiv x9_2 2)),(wrap64 (x59_2 + 1)),(by first|rfl|(simp;done)|(simp [*];done)),(by first|rfl|(simp;done)|(simp [*];done)),(by first|rfl|(simp;done)|(simp [*];done)),H',⟨by have:=HK1.out;have:=HK2.out;omega⟩,⟨by (with_reducible repeat (first|apply blk_drewN|apply blk_drew|apply blk_alloc));exact BK303.out⟩,⟨by repeat (first|(with_reducible first|exact HB.out|apply qa9|apply qb9|apply qc9|refine below_set ?_ GE303.out)|exact HB.out)⟩⟩
         ·
          rw [if_neg c34] at H
          exact absurd H (by simp)
        ·
         rw [if_neg c33] at H
         exact absurd H (by simp)
       ·
        rw [if_neg c32] at H
        have c32b0 : decide (x59_2 < (l0_3.length : Int)) = false:=decide_eq_false c32
        clear c32
        obtain rfl:=Option.some.inj H
        go_wp2
        go_ret
        exact ⟨by first|rfl|(simp [errW_none,errW_some] <;> rfl)|(simp [*,errW_none,errW_some] <;> rfl),by repeat (first|(with_reducible first|exact HB.out|apply qa9|apply qb9|apply qc9|refine below_set ?_ GE303.out)|exact HB.out)⟩
 ·
  rw [if_neg c4] at H
  exact absurd H (by simp)

end Go.Proofs.YtmkaknegjahjaaaDoor.PFnLamport
