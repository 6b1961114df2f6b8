-- laid by this session's program myprint.py over the kit's printer
-- squeezed
-- aliased
import Derived.Test.YtjkanhjapddhnaaPFnExactSameTablex0
import Derived.Test.YtjkanhjapddhnaaPFnExactSameTablex3
namespace Go.Proofs.Ytjkanhjapddhnaa.PFnExactSameTable
open Go.RowKit Go.Proofs.YtjkanhjapddhnaaV.PrintWords Go.Proofs.YtjkanhjapddhnaaV.PrintLast Go.Proofs.YtjkanhjapddhnaaV.PrintMore
attribute [local go_sem] max2_int min2_int max_two min_two max_three min_three max_four min_four u8_wm u32_wm   -- for this text's walks alone
set_option linter.unusedVariables false
set_option linter.unusedSimpArgs false

/-! ### laws_eqSeenS: function 50 -/
theorem qa4 : type_of% @below_alloc:=@below_alloc
theorem qb4 : type_of% @pw_below_drewN:=@pw_below_drewN
theorem qc4 : type_of% @below_drew1:=@below_drew1
theorem qd4 : type_of% @below_set:=@below_set
theorem qe4 : type_of% @Aside0.mk:=@Aside0.mk
def laws_eqSeenS.l0 : Nat → List (S77) → List (S77) → Int → Option (Bool)
 | 0,_,_,_ => none
 | k + 1,x0,x1,x5 => if x5 < (x0.length : Int) then (if 0 ≤ x5 then (if x5 < (x1.length : Int) then ((laws_eqSeen.f ((rd_T77 x0 x5).f0) ((rd_T77 x0 x5).f1) ((rd_T77 x0 x5).f2.f0) ((rd_T77 x0 x5).f2.f1) ((rd_T77 x0 x5).f2.f2) ((rd_T77 x0 x5).f2.f3) ((rd_T77 x1 x5).f0) ((rd_T77 x1 x5).f1) ((rd_T77 x1 x5).f2.f0) ((rd_T77 x1 x5).f2.f1) ((rd_T77 x1 x5).f2.f2) ((rd_T77 x1 x5).f2.f3)).bind fun t184 => (if t184 = true then (laws_eqSeenS.l0 k x0 x1 (wrap64 (x5 + 1))) else (some false))) else (none)) else (none)) else (some true)
def laws_eqSeenS.f (k : Nat) (l0 : List (S77)) (l1 : List (S77)) : Option (Bool):=if (l0.length : Int) = (l1.length : Int) then (laws_eqSeenS.l0 k l0 l1 0) else (some false)
def laws_eqSeenS.T6 : Bool × List (List Nat × List Nat):=(true,[([],[]),([],[]),([0,1],[0,1]),([2],[2]),([],[]),([],[]),([4,5],[4,5]),([6],[6]),([3,7],[3,7]),([8],[8])])
def laws_eqSeenS.B6 : List Nat:=[0,0,3,7,0,0,48,112,255,511]
theorem laws_eqSeenS.tab6 : rtab .any (opsOf Try.f50 6) = laws_eqSeenS.T6:=by kernel_rfl
theorem laws_eqSeenS.bits6 : waitsOk laws_eqSeenS.T6.2 laws_eqSeenS.B6 = true:=by kernel_rfl
set_option maxHeartbeats 8000000 in
set_option maxRecDepth 100000 in
theorem laws_eqSeenS.calls (k : Nat) (A0 : Option Addr) (c0 : Nat) (l0 : List (S77)) (A1 : Option Addr) (c1 : Nat) (l1 : List (S77)) (r : Bool) (w : World) (hr0 : Kd.C k77 w A0 l0.length l0) (hc0 : l0.length ≤ c0) (hr1 : Kd.C k77 w A1 l1.length l1) (hc1 : l1.length ≤ c1) (h : laws_eqSeenS.f k l0 l1 = some r) :
  Calls Try.prog 50 #[.slice A0 l0.length c0,.slice A1 l1.length c1] w fun e w' => e = .returned (.bool r) ∧ Below w.heap.size w w':=by
 have hu77:=Try.underlying77
 have HR0:=qe4 hr0
 have HC0:=qe4 hc0
 clear hr0 hc0
 have HR1:=qe4 hr1
 have HC1:=qe4 hc1
 clear hr1 hc1
 have HB:=qe4 (Below.refl w.heap.size w)
 have H : (if (l0.length : Int) = (l1.length : Int) then (laws_eqSeenS.l0 k l0 l1 0) else (some false)) = some r:=h
 clear h
 by_cases c3 : (l0.length : Int) = (l1.length : Int)
 ·
  rw [if_pos c3] at H
  have c3b0 : ((l0.length : Int) == (l1.length : Int)) = true:=beq_iff_eq.mpr c3
  have c3b1 : ((l0.length : Int) != (l1.length : Int)) = false:=bne_eq_false_iff_eq.mpr c3
  have c3b2 : (l0.length == l1.length) = true:=by first|simpa using c3|(simp at c3 ⊢;omega)
  clear c3
  have H':=qe4 H
  clear H
  go_enter Try.func50,Try.ntmps50
  go_wp2
  go_loopg [5] k (fun kq v5 w' => ∃ (x5_1 : Int),v5 = .int .i64 x5_1 ∧ Aside0 (laws_eqSeenS.l0 kq l0 l1 x5_1 = some r) ∧ Aside0 (kq ≤ k) ∧ Aside0 (Below w.heap.size w w'))
  case atStart => exact ⟨(0),(by first|rfl|(simp;done)|(simp [*];done)),H',⟨Nat.le_refl _⟩,⟨by repeat (first|(with_reducible first|exact HB.out|apply qa4|apply qb4|apply qc4)|exact HB.out)⟩⟩
  case round =>
   clear H'
   try clear c1
   try clear p2
   try clear c3
   try clear c3b0
   try clear c3b1
   try clear c3b2
   obtain ⟨x5_1,rfl,HA,HK1,HB⟩:=hrel
   cases gk with
   | zero => exact absurd HA.out (by simp [laws_eqSeenS.l0])
   | succ k1 =>
    have H:=HA.out
    clear HA
    simp only [laws_eqSeenS.l0] at H
    by_cases c4 : x5_1 < (l0.length : Int)
    ·
     rw [if_pos c4] at H
     have c4b0 : decide (x5_1 < (l0.length : Int)) = true:=decide_eq_true c4
     clear c4
     by_cases c5 : 0 ≤ x5_1
     ·
      rw [if_pos c5] at H
      have c5b0 : decide (0 ≤ x5_1) = true:=decide_eq_true c5
      clear c5
      by_cases c6 : x5_1 < (l1.length : Int)
      ·
       rw [if_pos c6] at H
       have c6b0 : decide (x5_1 < (l1.length : Int)) = true:=decide_eq_true c6
       clear c6
       replace H:=Option.bind_eq_some_iff.mp H
       obtain ⟨t184,A70,H⟩:=H
       replace H : (if t184 = true then (laws_eqSeenS.l0 k1 l0 l1 (wrap64 (x5_1 + 1))) else (some false)) = some r:=H
       have A7:=qe4 A70
       clear A70
       by_cases c8 : t184 = true
       ·
        subst c8
        have H1 : (laws_eqSeenS.l0 k1 l0 l1 (wrap64 (x5_1 + 1))) = some r:=by rw [if_pos rfl] at H;exact H
        clear H
        have H:=H1
        clear H1
        have H':=qe4 H
        clear H
        try go_wp2
        have n0_:=qe4 (qc4 HB.out)
        clear HB
        have HB:=n0_
        clear n0_
        have p182 : 0 ≤ (x5_1 : Int):=sM (by first|(with_reducible assumption)|assumption)
        have q182 : x5_1 < (l0.length : Int):=sM (by first|(with_reducible assumption)|assumption)
        obtain ⟨ad182,e182,hx182_0,hx182_1,hx182_2,hx182_3,hx182_4,hx182_5⟩:=at_T77 HR0.out x5_1 p182 q182
        have hw182_5:=hx182_5
        have hw182_4:=hx182_4
        have hw182_3:=hx182_3
        have hw182_2:=hx182_2
        have hw182_1:=hx182_1
        have hw182_0:=hx182_0
        cases e182
        replace hx182_0:=(HB.out.cell (sD w _ hx182_0)).trans hx182_0
        replace hx182_1:=(HB.out.cell (sD w _ hx182_1)).trans hx182_1
        replace hx182_2:=(HB.out.cell (sD w _ hx182_2)).trans hx182_2
        replace hx182_3:=(HB.out.cell (sD w _ hx182_3)).trans hx182_3
        replace hx182_4:=(HB.out.cell (sD w _ hx182_4)).trans hx182_4
        replace hx182_5:=(HB.out.cell (sD w _ hx182_5)).trans hx182_5
        replace p182:=eq_true p182
        replace q182:=eq_true q182
        have p183 : 0 ≤ (x5_1 : Int):=sM (by first|(with_reducible assumption)|assumption)
        have q183 : x5_1 < (l1.length : Int):=sM (by first|(with_reducible assumption)|assumption)
        obtain ⟨ad183,e183,hx183_0,hx183_1,hx183_2,hx183_3,hx183_4,hx183_5⟩:=at_T77 HR1.out x5_1 p183 q183
        have hw183_5:=hx183_5
        have hw183_4:=hx183_4
        have hw183_3:=hx183_3
        have hw183_2:=hx183_2
        have hw183_1:=hx183_1
        have hw183_0:=hx183_0
        cases e183
        replace hx183_0:=(HB.out.cell (sD w _ hx183_0)).trans hx183_0
        replace hx183_1:=(HB.out.cell (sD w _ hx183_1)).trans hx183_1
        replace hx183_2:=(HB.out.cell (sD w _ hx183_2)).trans hx183_2
        replace hx183_3:=(HB.out.cell (sD w _ hx183_3)).trans hx183_3
        replace hx183_4:=(HB.out.cell (sD w _ hx183_4)).trans hx183_4
        replace hx183_5:=(HB.out.cell (sD w _ hx183_5)).trans hx183_5
        replace p183:=eq_true p183
        replace q183:=eq_true q183
        refine start_ (n:=10) (S:=fun w' => w'.cell? (ad182.add ((x5_1).toNat * 6)) = some (.int .i64 ((rd_T77 l0 x5_1).f0)) ∧ w'.cell? ⟨(ad182.add ((x5_1).toNat * 6)).block,(ad182.add ((x5_1).toNat * 6)).off + 1,none⟩ = some (.int .i64 ((rd_T77 l0 x5_1).f1)) ∧ w'.cell? ⟨(ad182.add ((x5_1).toNat * 6)).block,(ad182.add ((x5_1).toNat * 6)).off + 2,none⟩ = some (.int .i64 ((rd_T77 l0 x5_1).f2.f0)) ∧ w'.cell? ⟨(ad182.add ((x5_1).toNat * 6)).block,(ad182.add ((x5_1).toNat * 6)).off + 3,none⟩ = some (.int .i64 ((rd_T77 l0 x5_1).f2.f1)) ∧ w'.cell? ⟨(ad182.add ((x5_1).toNat * 6)).block,(ad182.add ((x5_1).toNat * 6)).off + 4,none⟩ = some (.int .i64 ((rd_T77 l0 x5_1).f2.f2)) ∧ w'.cell? ⟨(ad182.add ((x5_1).toNat * 6)).block,(ad182.add ((x5_1).toNat * 6)).off + 5,none⟩ = some (.int .i64 ((rd_T77 l0 x5_1).f2.f3)) ∧ w'.cell? (ad183.add ((x5_1).toNat * 6)) = some (.int .i64 ((rd_T77 l1 x5_1).f0)) ∧ w'.cell? ⟨(ad183.add ((x5_1).toNat * 6)).block,(ad183.add ((x5_1).toNat * 6)).off + 1,none⟩ = some (.int .i64 ((rd_T77 l1 x5_1).f1)) ∧ w'.cell? ⟨(ad183.add ((x5_1).toNat * 6)).block,(ad183.add ((x5_1).toNat * 6)).off + 2,none⟩ = some (.int .i64 ((rd_T77 l1 x5_1).f2.f0)) ∧ w'.cell? ⟨(ad183.add ((x5_1).toNat * 6)).block,(ad183.add ((x5_1).toNat * 6)).off + 3,none⟩ = some (.int .i64 ((rd_T77 l1 x5_1).f2.f1)) ∧ w'.cell? ⟨(ad183.add ((x5_1).toNat * 6)).block,(ad183.add ((x5_1).toNat * 6)).off + 4,none⟩ = some (.int .i64 ((rd_T77 l1 x5_1).f2.f2)) ∧ w'.cell? ⟨(ad183.add ((x5_1).toNat * 6)).block,(ad183.add ((x5_1).toNat * 6)).off + 5,none⟩ = some (.int .i64 ((rd_T77 l1 x5_1).f2.f3))) (ds:=[]) #[false,false,false,false,false,false,false,false,false,false] (by kernel_rfl) rfl rfl ⟨((HB.out.cell (sD w _ hw182_0)).trans hw182_0),((HB.out.cell (sD w _ hw182_1)).trans hw182_1),((HB.out.cell (sD w _ hw182_2)).trans hw182_2),((HB.out.cell (sD w _ hw182_3)).trans hw182_3),((HB.out.cell (sD w _ hw182_4)).trans hw182_4),((HB.out.cell (sD w _ hw182_5)).trans hw182_5),((HB.out.cell (sD w _ hw183_0)).trans hw183_0),((HB.out.cell (sD w _ hw183_1)).trans hw183_1),((HB.out.cell (sD w _ hw183_2)).trans hw183_2),((HB.out.cell (sD w _ hw183_3)).trans hw183_3),((HB.out.cell (sD w _ hw183_4)).trans hw183_4),((HB.out.cell (sD w _ hw183_5)).trans hw183_5)⟩ (fun hHeld => ?_);refine with_tabW laws_eqSeenS.tab6 laws_eqSeenS.bits6 (fun HT_ HW_ => ?_)
        generalize wr.drew = w9 at HB hx182_0 hx182_1 hx182_2 hx182_3 hx182_4 hx182_5 hx183_0 hx183_1 hx183_2 hx183_3 hx183_4 hx183_5 hHeld ⊢
        refine pure_ (i:=0) (N:=some 17) (v:=?_) (a':=?_) #[true,false,false,false,false,false,false,false,false,false] rfl rfl (any_of HT_.out (by kernel_rfl)) (fun _ _ _ h => h) (Or.inl ⟨by rfl,?_⟩) ?_ ?_
        rotate_left
        ·
         intro w'
         go_simp
         with_reducible rfl
        rotate_left
        ·
         simp only [Act.put,sA,sB,sC,i64_w,i32_w]
         rfl
        refine pure_ (i:=1) (N:=some 18) (v:=?_) (a':=?_) #[true,true,false,false,false,false,false,false,false,false] rfl rfl (any_of HT_.out (by kernel_rfl)) (fun _ _ _ h => h) (Or.inl ⟨by rfl,?_⟩) ?_ ?_
        rotate_left
        ·
         intro w'
         go_simp
         with_reducible rfl
        rotate_left
        ·
         simp only [Act.put,sA,sB,sC,i64_w,i32_w]
         rfl
        refine pure_ (i:=2) (N:=some 19) (v:=?_) (a':=?_) #[true,true,true,false,false,false,false,false,false,false] rfl rfl (any_of HT_.out (by kernel_rfl)) (fun _ _ _ h => h) (Or.inl ⟨by rfl,?_⟩) ?_ ?_
        rotate_left
        ·
         intro w'
         go_simp
         with_reducible rfl
        rotate_left
        ·
         simp only [Act.put,sA,sB,sC,i64_w,i32_w]
         rfl
        refine pure_ (i:=4) (N:=some 21) (v:=?_) (a':=?_) #[true,true,true,false,true,false,false,false,false,false] rfl rfl (any_of HT_.out (by kernel_rfl)) (fun _ _ _ h => h) (Or.inl ⟨by rfl,?_⟩) ?_ ?_
        rotate_left
        ·
         intro w'
         go_simp
         with_reducible rfl
        rotate_left
        ·
         simp only [Act.put,sA,sB,sC,i64_w,i32_w]
         rfl
        refine pure_ (i:=5) (N:=some 22) (v:=?_) (a':=?_) #[true,true,true,false,true,true,false,false,false,false] rfl rfl (any_of HT_.out (by kernel_rfl)) (fun _ _ _ h => h) (Or.inl ⟨by rfl,?_⟩) ?_ ?_
        rotate_left
        ·
         intro w'
         go_simp
         with_reducible rfl
        rotate_left
        ·
         simp only [Act.put,sA,sB,sC,i64_w,i32_w]
         rfl
        refine pure_ (i:=6) (N:=some 23) (v:=?_) (a':=?_) #[true,true,true,false,true,true,true,false,false,false] rfl rfl (any_of HT_.out (by kernel_rfl)) (fun _ _ _ h => h) (Or.inl ⟨by rfl,?_⟩) ?_ ?_
        rotate_left
        ·
         intro w'
         go_simp
         with_reducible rfl
        rotate_left
        ·
         simp only [Act.put,sA,sB,sC,i64_w,i32_w]
         rfl
        refine take_ (i:=3) (N:=some 20) (v:=?_) (a':=?_) #[true,true,true,true,true,true,true,false,false,false] rfl rfl (take_ofW HT_.out HW_.out (by kernel_rfl)) (fun _ _ _ h => h) (Or.inl ⟨by rfl,?_⟩) hHeld ?_ ?_
        rotate_left
        ·
         rintro w' ⟨s0,s1,s2,s3,s4,s5,s6,s7,s8,s9,s10,s11⟩
         go_simp
         with_reducible rfl
        rotate_left
        ·
         simp only [Act.put,sA,sB,sC,i64_w,i32_w]
         rfl
        refine take_ (i:=7) (N:=some 24) (v:=?_) (a':=?_) #[true,true,true,true,true,true,true,true,false,false] rfl rfl (take_ofW HT_.out HW_.out (by kernel_rfl)) (fun _ _ _ h => h) (Or.inl ⟨by rfl,?_⟩) hHeld ?_ ?_
        rotate_left
        ·
         rintro w' ⟨s0,s1,s2,s3,s4,s5,s6,s7,s8,s9,s10,s11⟩
         go_simp
         with_reducible rfl
        rotate_left
        ·
         simp only [Act.put,sA,sB,sC,i64_w,i32_w]
         rfl
        refine one_ (i:=8) (N:=some 25) #[true,true,true,true,true,true,true,true,true,false] rfl rfl (one_of HT_.out (by kernel_rfl)) (by decide) (fun K hK => ?_)
        refine goes_ Try.func78 (by kernel_rfl) rfl #[.agg #[.int .i64 ((rd_T77 l0 x5_1).f0),.int .i64 ((rd_T77 l0 x5_1).f1),.int .i64 ((rd_T77 l0 x5_1).f2.f0),.int .i64 ((rd_T77 l0 x5_1).f2.f1),.int .i64 ((rd_T77 l0 x5_1).f2.f2),.int .i64 ((rd_T77 l0 x5_1).f2.f3)],.agg #[.int .i64 ((rd_T77 l1 x5_1).f0),.int .i64 ((rd_T77 l1 x5_1).f1),.int .i64 ((rd_T77 l1 x5_1).f2.f0),.int .i64 ((rd_T77 l1 x5_1).f2.f1),.int .i64 ((rd_T77 l1 x5_1).f2.f2),.int .i64 ((rd_T77 l1 x5_1).f2.f3)]] (by rfl) rfl rfl (by (try simp only [sE,sH,sI]);first|done|rfl|(simp only [sG,sF];rfl)) ?_
        with_reducible refine (laws_eqSeen.calls ((rd_T77 l0 x5_1).f0) ((rd_T77 l0 x5_1).f1) ((rd_T77 l0 x5_1).f2.f0) ((rd_T77 l0 x5_1).f2.f1) ((rd_T77 l0 x5_1).f2.f2) ((rd_T77 l0 x5_1).f2.f3) ((rd_T77 l1 x5_1).f0) ((rd_T77 l1 x5_1).f1) ((rd_T77 l1 x5_1).f2.f0) ((rd_T77 l1 x5_1).f2.f1) ((rd_T77 l1 x5_1).f2.f2) ((rd_T77 l1 x5_1).f2.f3) true _ A7.out).mono ?_
        rintro e w10 ⟨rfl,hb⟩
        refine ⟨_,rfl,?_⟩
        have n0_:=qe4 (sN (by repeat (first|(with_reducible first|exact HB.out|apply qa4|apply qb4|apply qc4)|exact HB.out)) hb)
        clear HB
        have HB:=n0_
        clear n0_
        (try clear hb)
        (try clear hb2)
        (try clear hk)
        (try clear hi)
        refine hK.out _ _ ⟨((HB.out.cell (sD w _ hw182_0)).trans hw182_0),((HB.out.cell (sD w _ hw182_1)).trans hw182_1),((HB.out.cell (sD w _ hw182_2)).trans hw182_2),((HB.out.cell (sD w _ hw182_3)).trans hw182_3),((HB.out.cell (sD w _ hw182_4)).trans hw182_4),((HB.out.cell (sD w _ hw182_5)).trans hw182_5),((HB.out.cell (sD w _ hw183_0)).trans hw183_0),((HB.out.cell (sD w _ hw183_1)).trans hw183_1),((HB.out.cell (sD w _ hw183_2)).trans hw183_2),((HB.out.cell (sD w _ hw183_3)).trans hw183_3),((HB.out.cell (sD w _ hw183_4)).trans hw183_4),((HB.out.cell (sD w _ hw183_5)).trans hw183_5)⟩ (fun hHeld => ?_)
        clear hK K
        refine norm_ (a':=?_) ?_ ?_
        rotate_left
        ·
         show Act.put _ (some 25) _ = _
         simp only [Act.put,sA,sB,sC,i64_w,i32_w]
         rfl
        refine pure_ (i:=9) (N:=some 26) (v:=?_) (a':=?_) #[true,true,true,true,true,true,true,true,true,true] rfl rfl (any_of HT_.out (by kernel_rfl)) (fun _ _ _ h => h) (Or.inl ⟨by rfl,?_⟩) ?_ ?_
        rotate_left
        ·
         intro w'
         go_simp
         with_reducible rfl
        rotate_left
        ·
         simp only [Act.put,sA,sB,sC,i64_w,i32_w]
         rfl
        refine done_ (done_of HT_.out (by kernel_rfl)) ?_
        try go_wp2
        go_roundg k1
        case measure => have:=HK1.out;omega
        case rel => exact ⟨(wrap64 (x5_1 + 1)),(by first|rfl|(simp;done)|(simp [*];done)),H',⟨by have:=HK1.out;omega⟩,⟨by repeat (first|(with_reducible first|exact HB.out|apply qa4|apply qb4|apply qc4)|exact HB.out)⟩⟩
       ·
        replace c8:=Bool.eq_false_iff.mpr c8
        subst c8
        have H1 : (some false) = some r:=by rw [if_neg (show ¬ (false = true) by decide)] at H;exact H
        clear H
        have H:=H1
        clear H1
        obtain rfl:=sO H
        try go_wp2
        have n0_:=qe4 (qc4 HB.out)
        clear HB
        have HB:=n0_
        clear n0_
        have p182 : 0 ≤ (x5_1 : Int):=sM (by first|(with_reducible assumption)|assumption)
        have q182 : x5_1 < (l0.length : Int):=sM (by first|(with_reducible assumption)|assumption)
        obtain ⟨ad182,e182,hx182_0,hx182_1,hx182_2,hx182_3,hx182_4,hx182_5⟩:=at_T77 HR0.out x5_1 p182 q182
        have hw182_5:=hx182_5
        have hw182_4:=hx182_4
        have hw182_3:=hx182_3
        have hw182_2:=hx182_2
        have hw182_1:=hx182_1
        have hw182_0:=hx182_0
        cases e182
        replace hx182_0:=(HB.out.cell (sD w _ hx182_0)).trans hx182_0
        replace hx182_1:=(HB.out.cell (sD w _ hx182_1)).trans hx182_1
        replace hx182_2:=(HB.out.cell (sD w _ hx182_2)).trans hx182_2
        replace hx182_3:=(HB.out.cell (sD w _ hx182_3)).trans hx182_3
        replace hx182_4:=(HB.out.cell (sD w _ hx182_4)).trans hx182_4
        replace hx182_5:=(HB.out.cell (sD w _ hx182_5)).trans hx182_5
        replace p182:=eq_true p182
        replace q182:=eq_true q182
        have p183 : 0 ≤ (x5_1 : Int):=sM (by first|(with_reducible assumption)|assumption)
        have q183 : x5_1 < (l1.length : Int):=sM (by first|(with_reducible assumption)|assumption)
        obtain ⟨ad183,e183,hx183_0,hx183_1,hx183_2,hx183_3,hx183_4,hx183_5⟩:=at_T77 HR1.out x5_1 p183 q183
        have hw183_5:=hx183_5
        have hw183_4:=hx183_4
        have hw183_3:=hx183_3
        have hw183_2:=hx183_2
        have hw183_1:=hx183_1
        have hw183_0:=hx183_0
        cases e183
        replace hx183_0:=(HB.out.cell (sD w _ hx183_0)).trans hx183_0
        replace hx183_1:=(HB.out.cell (sD w _ hx183_1)).trans hx183_1
        replace hx183_2:=(HB.out.cell (sD w _ hx183_2)).trans hx183_2
        replace hx183_3:=(HB.out.cell (sD w _ hx183_3)).trans hx183_3
        replace hx183_4:=(HB.out.cell (sD w _ hx183_4)).trans hx183_4
        replace hx183_5:=(HB.out.cell (sD w _ hx183_5)).trans hx183_5
        replace p183:=eq_true p183
        replace q183:=eq_true q183
        refine start_ (n:=10) (S:=fun w' => w'.cell? (ad182.add ((x5_1).toNat * 6)) = some (.int .i64 ((rd_T77 l0 x5_1).f0)) ∧ w'.cell? ⟨(ad182.add ((x5_1).toNat * 6)).block,(ad182.add ((x5_1).toNat * 6)).off + 1,none⟩ = some (.int .i64 ((rd_T77 l0 x5_1).f1)) ∧ w'.cell? ⟨(ad182.add ((x5_1).toNat * 6)).block,(ad182.add ((x5_1).toNat * 6)).off + 2,none⟩ = some (.int .i64 ((rd_T77 l0 x5_1).f2.f0)) ∧ w'.cell? ⟨(ad182.add ((x5_1).toNat * 6)).block,(ad182.add ((x5_1).toNat * 6)).off + 3,none⟩ = some (.int .i64 ((rd_T77 l0 x5_1).f2.f1)) ∧ w'.cell? ⟨(ad182.add ((x5_1).toNat * 6)).block,(ad182.add ((x5_1).toNat * 6)).off + 4,none⟩ = some (.int .i64 ((rd_T77 l0 x5_1).f2.f2)) ∧ w'.cell? ⟨(ad182.add ((x5_1).toNat * 6)).block,(ad182.add ((x5_1).toNat * 6)).off + 5,none⟩ = some (.int .i64 ((rd_T77 l0 x5_1).f2.f3)) ∧ w'.cell? (ad183.add ((x5_1).toNat * 6)) = some (.int .i64 ((rd_T77 l1 x5_1).f0)) ∧ w'.cell? ⟨(ad183.add ((x5_1).toNat * 6)).block,(ad183.add ((x5_1).toNat * 6)).off + 1,none⟩ = some (.int .i64 ((rd_T77 l1 x5_1).f1)) ∧ w'.cell? ⟨(ad183.add ((x5_1).toNat * 6)).block,(ad183.add ((x5_1).toNat * 6)).off + 2,none⟩ = some (.int .i64 ((rd_T77 l1 x5_1).f2.f0)) ∧ w'.cell? ⟨(ad183.add ((x5_1).toNat * 6)).block,(ad183.add ((x5_1).toNat * 6)).off + 3,none⟩ = some (.int .i64 ((rd_T77 l1 x5_1).f2.f1)) ∧ w'.cell? ⟨(ad183.add ((x5_1).toNat * 6)).block,(ad183.add ((x5_1).toNat * 6)).off + 4,none⟩ = some (.int .i64 ((rd_T77 l1 x5_1).f2.f2)) ∧ w'.cell? ⟨(ad183.add ((x5_1).toNat * 6)).block,(ad183.add ((x5_1).toNat * 6)).off + 5,none⟩ = some (.int .i64 ((rd_T77 l1 x5_1).f2.f3))) (ds:=[]) #[false,false,false,false,false,false,false,false,false,false] (by kernel_rfl) rfl rfl ⟨((HB.out.cell (sD w _ hw182_0)).trans hw182_0),((HB.out.cell (sD w _ hw182_1)).trans hw182_1),((HB.out.cell (sD w _ hw182_2)).trans hw182_2),((HB.out.cell (sD w _ hw182_3)).trans hw182_3),((HB.out.cell (sD w _ hw182_4)).trans hw182_4),((HB.out.cell (sD w _ hw182_5)).trans hw182_5),((HB.out.cell (sD w _ hw183_0)).trans hw183_0),((HB.out.cell (sD w _ hw183_1)).trans hw183_1),((HB.out.cell (sD w _ hw183_2)).trans hw183_2),((HB.out.cell (sD w _ hw183_3)).trans hw183_3),((HB.out.cell (sD w _ hw183_4)).trans hw183_4),((HB.out.cell (sD w _ hw183_5)).trans hw183_5)⟩ (fun hHeld => ?_);refine with_tabW laws_eqSeenS.tab6 laws_eqSeenS.bits6 (fun HT_ HW_ => ?_)
        generalize wr.drew = w11 at HB hx182_0 hx182_1 hx182_2 hx182_3 hx182_4 hx182_5 hx183_0 hx183_1 hx183_2 hx183_3 hx183_4 hx183_5 hHeld ⊢
        refine pure_ (i:=0) (N:=some 17) (v:=?_) (a':=?_) #[true,false,false,false,false,false,false,false,false,false] rfl rfl (any_of HT_.out (by kernel_rfl)) (fun _ _ _ h => h) (Or.inl ⟨by rfl,?_⟩) ?_ ?_
        rotate_left
        ·
         intro w'
         go_simp
         with_reducible rfl
        rotate_left
        ·
         simp only [Act.put,sA,sB,sC,i64_w,i32_w]
         rfl
        refine pure_ (i:=1) (N:=some 18) (v:=?_) (a':=?_) #[true,true,false,false,false,false,false,false,false,false] rfl rfl (any_of HT_.out (by kernel_rfl)) (fun _ _ _ h => h) (Or.inl ⟨by rfl,?_⟩) ?_ ?_
        rotate_left
        ·
         intro w'
         go_simp
         with_reducible rfl
        rotate_left
        ·
         simp only [Act.put,sA,sB,sC,i64_w,i32_w]
         rfl
        refine pure_ (i:=2) (N:=some 19) (v:=?_) (a':=?_) #[true,true,true,false,false,false,false,false,false,false] rfl rfl (any_of HT_.out (by kernel_rfl)) (fun _ _ _ h => h) (Or.inl ⟨by rfl,?_⟩) ?_ ?_
        rotate_left
        ·
         intro w'
         go_simp
         with_reducible rfl
        rotate_left
        ·
         simp only [Act.put,sA,sB,sC,i64_w,i32_w]
         rfl
        refine pure_ (i:=4) (N:=some 21) (v:=?_) (a':=?_) #[true,true,true,false,true,false,false,false,false,false] rfl rfl (any_of HT_.out (by kernel_rfl)) (fun _ _ _ h => h) (Or.inl ⟨by rfl,?_⟩) ?_ ?_
        rotate_left
        ·
         intro w'
         go_simp
         with_reducible rfl
        rotate_left
        ·
         simp only [Act.put,sA,sB,sC,i64_w,i32_w]
         rfl
        refine pure_ (i:=5) (N:=some 22) (v:=?_) (a':=?_) #[true,true,true,false,true,true,false,false,false,false] rfl rfl (any_of HT_.out (by kernel_rfl)) (fun _ _ _ h => h) (Or.inl ⟨by rfl,?_⟩) ?_ ?_
        rotate_left
        ·
         intro w'
         go_simp
         with_reducible rfl
        rotate_left
        ·
         simp only [Act.put,sA,sB,sC,i64_w,i32_w]
         rfl
        refine pure_ (i:=6) (N:=some 23) (v:=?_) (a':=?_) #[true,true,true,false,true,true,true,false,false,false] rfl rfl (any_of HT_.out (by kernel_rfl)) (fun _ _ _ h => h) (Or.inl ⟨by rfl,?_⟩) ?_ ?_
        rotate_left
        ·
         intro w'
         go_simp
         with_reducible rfl
        rotate_left
        ·
         simp only [Act.put,sA,sB,sC,i64_w,i32_w]
         rfl
        refine take_ (i:=3) (N:=some 20) (v:=?_) (a':=?_) #[true,true,true,true,true,true,true,false,false,false] rfl rfl (take_ofW HT_.out HW_.out (by kernel_rfl)) (fun _ _ _ h => h) (Or.inl ⟨by rfl,?_⟩) hHeld ?_ ?_
        rotate_left
        ·
         rintro w' ⟨s0,s1,s2,s3,s4,s5,s6,s7,s8,s9,s10,s11⟩
         go_simp
         with_reducible rfl
        rotate_left
        ·
         simp only [Act.put,sA,sB,sC,i64_w,i32_w]
         rfl
        refine take_ (i:=7) (N:=some 24) (v:=?_) (a':=?_) #[true,true,true,true,true,true,true,true,false,false] rfl rfl (take_ofW HT_.out HW_.out (by kernel_rfl)) (fun _ _ _ h => h) (Or.inl ⟨by rfl,?_⟩) hHeld ?_ ?_
        rotate_left
        ·
         rintro w' ⟨s0,s1,s2,s3,s4,s5,s6,s7,s8,s9,s10,s11⟩
         go_simp
         with_reducible rfl
        rotate_left
        ·
         simp only [Act.put,sA,sB,sC,i64_w,i32_w]
         rfl
        refine one_ (i:=8) (N:=some 25) #[true,true,true,true,true,true,true,true,true,false] rfl rfl (one_of HT_.out (by kernel_rfl)) (by decide) (fun K hK => ?_)
        refine goes_ Try.func78 (by kernel_rfl) rfl #[.agg #[.int .i64 ((rd_T77 l0 x5_1).f0),.int .i64 ((rd_T77 l0 x5_1).f1),.int .i64 ((rd_T77 l0 x5_1).f2.f0),.int .i64 ((rd_T77 l0 x5_1).f2.f1),.int .i64 ((rd_T77 l0 x5_1).f2.f2),.int .i64 ((rd_T77 l0 x5_1).f2.f3)],.agg #[.int .i64 ((rd_T77 l1 x5_1).f0),.int .i64 ((rd_T77 l1 x5_1).f1),.int .i64 ((rd_T77 l1 x5_1).f2.f0),.int .i64 ((rd_T77 l1 x5_1).f2.f1),.int .i64 ((rd_T77 l1 x5_1).f2.f2),.int .i64 ((rd_T77 l1 x5_1).f2.f3)]] (by rfl) rfl rfl (by (try simp only [sE,sH,sI]);first|done|rfl|(simp only [sG,sF];rfl)) ?_
        with_reducible refine (laws_eqSeen.calls ((rd_T77 l0 x5_1).f0) ((rd_T77 l0 x5_1).f1) ((rd_T77 l0 x5_1).f2.f0) ((rd_T77 l0 x5_1).f2.f1) ((rd_T77 l0 x5_1).f2.f2) ((rd_T77 l0 x5_1).f2.f3) ((rd_T77 l1 x5_1).f0) ((rd_T77 l1 x5_1).f1) ((rd_T77 l1 x5_1).f2.f0) ((rd_T77 l1 x5_1).f2.f1) ((rd_T77 l1 x5_1).f2.f2) ((rd_T77 l1 x5_1).f2.f3) false _ A7.out).mono ?_
        rintro e w12 ⟨rfl,hb⟩
        refine ⟨_,rfl,?_⟩
        have n0_:=qe4 (sN (by repeat (first|(with_reducible first|exact HB.out|apply qa4|apply qb4|apply qc4)|exact HB.out)) hb)
        clear HB
        have HB:=n0_
        clear n0_
        (try clear hb)
        (try clear hb2)
        (try clear hk)
        (try clear hi)
        refine hK.out _ _ ⟨((HB.out.cell (sD w _ hw182_0)).trans hw182_0),((HB.out.cell (sD w _ hw182_1)).trans hw182_1),((HB.out.cell (sD w _ hw182_2)).trans hw182_2),((HB.out.cell (sD w _ hw182_3)).trans hw182_3),((HB.out.cell (sD w _ hw182_4)).trans hw182_4),((HB.out.cell (sD w _ hw182_5)).trans hw182_5),((HB.out.cell (sD w _ hw183_0)).trans hw183_0),((HB.out.cell (sD w _ hw183_1)).trans hw183_1),((HB.out.cell (sD w _ hw183_2)).trans hw183_2),((HB.out.cell (sD w _ hw183_3)).trans hw183_3),((HB.out.cell (sD w _ hw183_4)).trans hw183_4),((HB.out.cell (sD w _ hw183_5)).trans hw183_5)⟩ (fun hHeld => ?_)
        clear hK K
        refine norm_ (a':=?_) ?_ ?_
        rotate_left
        ·
         show Act.put _ (some 25) _ = _
         simp only [Act.put,sA,sB,sC,i64_w,i32_w]
         rfl
        refine pure_ (i:=9) (N:=some 26) (v:=?_) (a':=?_) #[true,true,true,true,true,true,true,true,true,true] rfl rfl (any_of HT_.out (by kernel_rfl)) (fun _ _ _ h => h) (Or.inl ⟨by rfl,?_⟩) ?_ ?_
        rotate_left
        ·
         intro w'
         go_simp
         with_reducible rfl
        rotate_left
        ·
         simp only [Act.put,sA,sB,sC,i64_w,i32_w]
         rfl
        refine done_ (done_of HT_.out (by kernel_rfl)) ?_
        try go_wp2
        go_ret
        exact ⟨by first|rfl|(simp [errW_none,errW_some] <;> rfl)|(simp [*,errW_none,errW_some] <;> rfl),by repeat (first|(with_reducible first|exact HB.out|apply qa4|apply qb4|apply qc4)|exact HB.out)⟩
      ·
       rw [if_neg c6] at H
       exact absurd H (by simp)
     ·
      rw [if_neg c5] at H
      exact absurd H (by simp)
    ·
     rw [if_neg c4] at H
     have c4b0 : decide (x5_1 < (l0.length : Int)) = false:=decide_eq_false c4
     clear c4
     obtain rfl:=sO H
     go_wp2
     go_ret
     exact ⟨by first|rfl|(simp [errW_none,errW_some] <;> rfl)|(simp [*,errW_none,errW_some] <;> rfl),by repeat (first|(with_reducible first|exact HB.out|apply qa4|apply qb4|apply qc4)|exact HB.out)⟩
 ·
  rw [if_neg c3] at H
  have c3b0 : ((l0.length : Int) == (l1.length : Int)) = false:=beq_eq_false_iff_ne.mpr c3
  have c3b1 : ((l0.length : Int) != (l1.length : Int)) = true:=bne_iff_ne.mpr c3
  have c3b2 : (l0.length == l1.length) = false:=by first|simpa using c3|(simp at c3 ⊢;omega)
  obtain rfl:=sO H
  go_enter Try.func50,Try.ntmps50
  go_wp2
  go_ret
  exact ⟨by first|rfl|(simp [errW_none,errW_some] <;> rfl)|(simp [*,errW_none,errW_some] <;> rfl),by repeat (first|(with_reducible first|exact HB.out|apply qa4|apply qb4|apply qc4)|exact HB.out)⟩

/-! ### laws_eqTable: function 12 -/
def laws_eqTable.f (k : Nat) (a0_0 : Int) (a0_1 : Int) (l0_2 : List (S70)) (l0_3 : List (S77)) (a1_0 : Int) (a1_1 : Int) (l1_2 : List (S70)) (l1_3 : List (S77)) : Option (Bool):=if a0_0 = a1_0 then (if a0_1 = a1_1 then ((laws_eqLockS.f k l0_2 l1_2).bind fun t187 => (if t187 = true then ((laws_eqSeenS.f k l0_3 l1_3).bind fun t188 => (if t188 = true then (some true) else (some false))) else (some false))) else (some false)) else (some false)
set_option maxHeartbeats 8000000 in
set_option maxRecDepth 100000 in
theorem laws_eqTable.calls (k : Nat) (a0_0 : Int) (a0_1 : Int) (A0_2 : Option Addr) (c0_2 : Nat) (l0_2 : List (S70)) (A0_3 : Option Addr) (c0_3 : Nat) (l0_3 : List (S77)) (a1_0 : Int) (a1_1 : Int) (A1_2 : Option Addr) (c1_2 : Nat) (l1_2 : List (S70)) (A1_3 : Option Addr) (c1_3 : Nat) (l1_3 : List (S77)) (r : Bool) (w : World) (hr0_2 : Kd.C k70 w A0_2 l0_2.length l0_2) (hc0_2 : l0_2.length ≤ c0_2) (hr0_3 : Kd.C k77 w A0_3 l0_3.length l0_3) (hc0_3 : l0_3.length ≤ c0_3) (hr1_2 : Kd.C k70 w A1_2 l1_2.length l1_2) (hc1_2 : l1_2.length ≤ c1_2) (hr1_3 : Kd.C k77 w A1_3 l1_3.length l1_3) (hc1_3 : l1_3.length ≤ c1_3) (h : laws_eqTable.f k a0_0 a0_1 l0_2 l0_3 a1_0 a1_1 l1_2 l1_3 = some r) :
  Calls Try.prog 12 #[.agg #[.int .i64 a0_0,.int .i64 a0_1,.slice A0_2 l0_2.length c0_2,.slice A0_3 l0_3.length c0_3],.agg #[.int .i64 a1_0,.int .i64 a1_1,.slice A1_2 l1_2.length c1_2,.slice A1_3 l1_3.length c1_3]] w fun e w' => e = .returned (.bool r) ∧ Below w.heap.size w w':=by
 have hu31:=Try.underlying31
 have HR0_2:=qe4 hr0_2
 have HC0_2:=qe4 hc0_2
 clear hr0_2 hc0_2
 have HR0_3:=qe4 hr0_3
 have HC0_3:=qe4 hc0_3
 clear hr0_3 hc0_3
 have HR1_2:=qe4 hr1_2
 have HC1_2:=qe4 hc1_2
 clear hr1_2 hc1_2
 have HR1_3:=qe4 hr1_3
 have HC1_3:=qe4 hc1_3
 clear hr1_3 hc1_3
 have HB:=qe4 (Below.refl w.heap.size w)
 have H : (if a0_0 = a1_0 then (if a0_1 = a1_1 then ((laws_eqLockS.f k l0_2 l1_2).bind fun t187 => (if t187 = true then ((laws_eqSeenS.f k l0_3 l1_3).bind fun t188 => (if t188 = true then (some true) else (some false))) else (some false))) else (some false)) else (some false)) = some r:=h
 clear h
 by_cases c3 : a0_0 = a1_0
 ·
  rw [if_pos c3] at H
  have c3b0 : (a0_0 == a1_0) = true:=beq_iff_eq.mpr c3
  have c3b1 : (a0_0 != a1_0) = false:=bne_eq_false_iff_eq.mpr c3
  clear c3
  by_cases c4 : a0_1 = a1_1
  ·
   rw [if_pos c4] at H
   have c4b0 : (a0_1 == a1_1) = true:=beq_iff_eq.mpr c4
   have c4b1 : (a0_1 != a1_1) = false:=bne_eq_false_iff_eq.mpr c4
   clear c4
   replace H:=Option.bind_eq_some_iff.mp H
   obtain ⟨t187,A50,H⟩:=H
   replace H : (if t187 = true then ((laws_eqSeenS.f k l0_3 l1_3).bind fun t188 => (if t188 = true then (some true) else (some false))) else (some false)) = some r:=H
   have A5:=qe4 A50
   clear A50
   by_cases c6 : t187 = true
   ·
    subst c6
    have H1 : ((laws_eqSeenS.f k l0_3 l1_3).bind fun t188 => (if t188 = true then (some true) else (some false))) = some r:=by rw [if_pos rfl] at H;exact H
    clear H
    have H:=H1
    clear H1
    replace H:=Option.bind_eq_some_iff.mp H
    obtain ⟨t188,A70,H⟩:=H
    replace H : (if t188 = true then (some true) else (some false)) = some r:=H
    have A7:=qe4 A70
    clear A70
    by_cases c8 : t188 = true
    ·
     subst c8
     have H1 : (some true) = some r:=by rw [if_pos rfl] at H;exact H
     clear H
     have H:=H1
     clear H1
     obtain rfl:=sO H
     go_enter Try.func12,Try.ntmps12
     go_wp2_with (first|((with_reducible refine gate_dst (N:=2) rfl ?_);refine box_event ?hg (N:=2) ?hd (cs:=#[.int .i64 a0_0,.int .i64 a0_1,.slice A0_2 l0_2.length c0_2,.slice A0_3 l0_3.length c0_3]) (t:=31) ?hr ?_;(case hd => rfl);(case hg => rfl);(case hr => first|(go_simp;done)|(go_simp;rfl));intro gb185 hg w9 hbox hb;have n0_:=qe4 (sN (by repeat (first|(with_reducible first|exact HB.out|apply qa4|apply qb4|apply qc4)|exact HB.out)) hb);have n1_:=qe4 (hbox);have n2_:=qe4 ((by rw [hg];exact (below_size (by repeat (first|(with_reducible first|exact HB.out|apply qa4|apply qb4|apply qc4)|exact HB.out))) : w.heap.size ≤ gb185));have n3_:=qe4 ((by rw [hg];exact (below_size (by repeat (first|(with_reducible first|exact HB.out|apply qa4|apply qb4|apply qc4)|exact HB.out))) : w.heap.size ≤ gb185));clear HB;have HB:=n0_;have BK185:=n1_;have GW185:=n2_;have GE185:=n3_;clear n0_ n1_ n2_ n3_;clear hb hbox hg)|((with_reducible refine gate_dst (N:=3) rfl ?_);refine box_event ?hg (N:=3) ?hd (cs:=#[.int .i64 a1_0,.int .i64 a1_1,.slice A1_2 l1_2.length c1_2,.slice A1_3 l1_3.length c1_3]) (t:=31) ?hr ?_;(case hd => rfl);(case hg => rfl);(case hr => first|(go_simp;done)|(go_simp;rfl));intro gb186 hg w10 hbox hb;have n0_:=qe4 (blk_below (g:=gb185) (o:=.cells #[.int .i64 a0_0,.int .i64 a0_1,.slice A0_2 l0_2.length c0_2,.slice A0_3 l0_3.length c0_3] 31 (0,0)) (by (with_reducible repeat (first|apply blk_drewN|apply blk_drew|apply blk_alloc));exact BK185.out) hb);have n1_:=qe4 (sN (by repeat (first|(with_reducible first|exact HB.out|apply qa4|apply qb4|apply qc4|refine qd4 ?_ GE185.out)|exact HB.out)) hb);have n2_:=qe4 (hbox);have n3_:=qe4 ((by rw [hg];exact (below_size (by repeat (first|(with_reducible first|exact HB.out|apply qa4|apply qb4|apply qc4|refine qd4 ?_ GE185.out)|exact HB.out))) : w.heap.size ≤ gb186));have n4_:=qe4 ((by rw [hg];exact (below_size (by repeat (first|(with_reducible first|exact HB.out|apply qa4|apply qb4|apply qc4|refine qd4 ?_ GE185.out)|exact HB.out))) : w.heap.size ≤ gb186));have n5_:=qe4 ((by rw [hg];exact Nat.ne_of_lt (blk_lt (g:=gb185) (o:=.cells #[.int .i64 a0_0,.int .i64 a0_1,.slice A0_2 l0_2.length c0_2,.slice A0_3 l0_3.length c0_3] 31 (0,0)) (by (with_reducible repeat (first|apply blk_drewN|apply blk_drew|apply blk_alloc));exact BK185.out)) : gb185 ≠ gb186));have n6_:=qe4 ((by rw [hg];exact Nat.ne_of_gt (blk_lt (g:=gb185) (o:=.cells #[.int .i64 a0_0,.int .i64 a0_1,.slice A0_2 l0_2.length c0_2,.slice A0_3 l0_3.length c0_3] 31 (0,0)) (by (with_reducible repeat (first|apply blk_drewN|apply blk_drew|apply blk_alloc));exact BK185.out)) : gb186 ≠ gb185));clear BK185;clear HB;have BK185:=n0_;have HB:=n1_;have BK186:=n2_;have GW186:=n3_;have GE186:=n4_;have NB185_186:=n5_;have NB186_185:=n6_;clear n0_ n1_ n2_ n3_ n4_ n5_ n6_;clear hb hbox hg;have hnb11:=NB185_186.out;have hnc11:=NB186_185.out;have hcz12_0 : w10.cell? ⟨gb185,0,none⟩ = some (.int .i64 a0_0):=(blk_cell BK185.out 0).trans rfl;have hcz12_1 : w10.cell? ⟨gb185,1,none⟩ = some (.int .i64 a0_1):=(blk_cell BK185.out 1).trans rfl;have hcz12_2 : w10.cell? ⟨gb185,2,none⟩ = some (.slice A0_2 l0_2.length c0_2):=(blk_cell BK185.out 2).trans rfl;have hcz12_3 : w10.cell? ⟨gb185,3,none⟩ = some (.slice A0_3 l0_3.length c0_3):=(blk_cell BK185.out 3).trans rfl;have hfz12_0:=sJ BK185.out 0;have hfz12_1:=sJ BK185.out 1;have hfz12_2:=sJ BK185.out 2;have hfz12_3:=sJ BK185.out 3;have hcz13_0 : w10.cell? ⟨gb186,0,none⟩ = some (.int .i64 a1_0):=(blk_cell BK186.out 0).trans rfl;have hcz13_1 : w10.cell? ⟨gb186,1,none⟩ = some (.int .i64 a1_1):=(blk_cell BK186.out 1).trans rfl;have hcz13_2 : w10.cell? ⟨gb186,2,none⟩ = some (.slice A1_2 l1_2.length c1_2):=(blk_cell BK186.out 2).trans rfl;have hcz13_3 : w10.cell? ⟨gb186,3,none⟩ = some (.slice A1_3 l1_3.length c1_3):=(blk_cell BK186.out 3).trans rfl;have hfz13_0:=sJ BK186.out 0;have hfz13_1:=sJ BK186.out 1;have hfz13_2:=sJ BK186.out 2;have hfz13_3:=sJ BK186.out 3)|((with_reducible refine gate_callee (f:=49) rfl ?_);refine goesL_ (some 19) rfl rfl Try.func49 (by kernel_rfl) rfl #[.slice A0_2 l0_2.length c0_2,.slice A1_2 l1_2.length c1_2] rfl (by (try simp only [sE,sH,sI]);first|done|rfl|(simp only [sG,sF];rfl)) ?_;(with_reducible refine (laws_eqLockS.calls k _ _ l0_2 _ _ l1_2 true _ ?side1 ?side2 ?side3 ?side4 A5.out).mono ?_);(case side1 => repeat (first|exact (Kd.C_below HR0_2.out HB.out)|(with_reducible refine Kd.C_alloc ?_ _)|(with_reducible refine Kd.C_drewN ?_ _)|(with_reducible refine Kd.C_drew ?_)));(case side2 => exact HC0_2.out);(case side3 => repeat (first|exact (Kd.C_below HR1_2.out HB.out)|(with_reducible refine Kd.C_alloc ?_ _)|(with_reducible refine Kd.C_drewN ?_ _)|(with_reducible refine Kd.C_drew ?_)));(case side4 => exact HC1_2.out);rintro e w14 ⟨rfl,hb⟩;refine ⟨_,rfl,?_⟩;have n0_:=qe4 (blk_below (g:=gb185) (o:=.cells #[.int .i64 a0_0,.int .i64 a0_1,.slice A0_2 l0_2.length c0_2,.slice A0_3 l0_3.length c0_3] 31 (0,0)) (by (with_reducible repeat (first|apply blk_drewN|apply blk_drew|apply blk_alloc));exact BK185.out) hb);have n1_:=qe4 (blk_below (g:=gb186) (o:=.cells #[.int .i64 a1_0,.int .i64 a1_1,.slice A1_2 l1_2.length c1_2,.slice A1_3 l1_3.length c1_3] 31 (0,0)) (by (with_reducible repeat (first|apply blk_drewN|apply blk_drew|apply blk_alloc));exact BK186.out) hb);have n2_:=qe4 (sN (by repeat (first|(with_reducible first|exact HB.out|apply qa4|apply qb4|apply qc4|refine qd4 ?_ GE185.out|refine qd4 ?_ GE186.out)|exact HB.out)) hb);clear BK185;clear BK186;clear HB;have BK185:=n0_;have BK186:=n1_;have HB:=n2_;clear n0_ n1_ n2_;(try clear hb);(try clear hb2);(try clear hk);(try clear hi);have hcz15_0 : w14.cell? ⟨gb185,0,none⟩ = some (.int .i64 a0_0):=(blk_cell BK185.out 0).trans rfl;have hcz15_1 : w14.cell? ⟨gb185,1,none⟩ = some (.int .i64 a0_1):=(blk_cell BK185.out 1).trans rfl;have hcz15_2 : w14.cell? ⟨gb185,2,none⟩ = some (.slice A0_2 l0_2.length c0_2):=(blk_cell BK185.out 2).trans rfl;have hcz15_3 : w14.cell? ⟨gb185,3,none⟩ = some (.slice A0_3 l0_3.length c0_3):=(blk_cell BK185.out 3).trans rfl;have hfz15_0:=sJ BK185.out 0;have hfz15_1:=sJ BK185.out 1;have hfz15_2:=sJ BK185.out 2;have hfz15_3:=sJ BK185.out 3;have hcz16_0 : w14.cell? ⟨gb186,0,none⟩ = some (.int .i64 a1_0):=(blk_cell BK186.out 0).trans rfl;have hcz16_1 : w14.cell? ⟨gb186,1,none⟩ = some (.int .i64 a1_1):=(blk_cell BK186.out 1).trans rfl;have hcz16_2 : w14.cell? ⟨gb186,2,none⟩ = some (.slice A1_2 l1_2.length c1_2):=(blk_cell BK186.out 2).trans rfl;have hcz16_3 : w14.cell? ⟨gb186,3,none⟩ = some (.slice A1_3 l1_3.length c1_3):=(blk_cell BK186.out 3).trans rfl;have hfz16_0:=sJ BK186.out 0;have hfz16_1:=sJ BK186.out 1;have hfz16_2:=sJ BK186.out 2;have hfz16_3:=sJ BK186.out 3)|((with_reducible refine gate_callee (f:=50) rfl ?_);refine goesL_ (some 25) rfl rfl Try.func50 (by kernel_rfl) rfl #[.slice A0_3 l0_3.length c0_3,.slice A1_3 l1_3.length c1_3] rfl (by (try simp only [sE,sH,sI]);first|done|rfl|(simp only [sG,sF];rfl)) ?_;(with_reducible refine (laws_eqSeenS.calls k _ _ l0_3 _ _ l1_3 true _ ?side1 ?side2 ?side3 ?side4 A7.out).mono ?_);(case side1 => repeat (first|exact (Kd.C_below HR0_3.out HB.out)|(with_reducible refine Kd.C_alloc ?_ _)|(with_reducible refine Kd.C_drewN ?_ _)|(with_reducible refine Kd.C_drew ?_)));(case side2 => exact HC0_3.out);(case side3 => repeat (first|exact (Kd.C_below HR1_3.out HB.out)|(with_reducible refine Kd.C_alloc ?_ _)|(with_reducible refine Kd.C_drewN ?_ _)|(with_reducible refine Kd.C_drew ?_)));(case side4 => exact HC1_3.out);rintro e w17 ⟨rfl,hb⟩;refine ⟨_,rfl,?_⟩;have n0_:=qe4 (blk_below (g:=gb185) (o:=.cells #[.int .i64 a0_0,.int .i64 a0_1,.slice A0_2 l0_2.length c0_2,.slice A0_3 l0_3.length c0_3] 31 (0,0)) (by (with_reducible repeat (first|apply blk_drewN|apply blk_drew|apply blk_alloc));exact BK185.out) hb);have n1_:=qe4 (blk_below (g:=gb186) (o:=.cells #[.int .i64 a1_0,.int .i64 a1_1,.slice A1_2 l1_2.length c1_2,.slice A1_3 l1_3.length c1_3] 31 (0,0)) (by (with_reducible repeat (first|apply blk_drewN|apply blk_drew|apply blk_alloc));exact BK186.out) hb);have n2_:=qe4 (sN (by repeat (first|(with_reducible first|exact HB.out|apply qa4|apply qb4|apply qc4|refine qd4 ?_ GE185.out|refine qd4 ?_ GE186.out)|exact HB.out)) hb);clear BK185;clear BK186;clear HB;have BK185:=n0_;have BK186:=n1_;have HB:=n2_;clear n0_ n1_ n2_;(try clear hb);(try clear hb2);(try clear hk);(try clear hi)))
     go_ret
     exact ⟨by first|rfl|(simp [errW_none,errW_some] <;> rfl)|(simp [*,errW_none,errW_some] <;> rfl),by repeat (first|(with_reducible first|exact HB.out|apply qa4|apply qb4|apply qc4|refine qd4 ?_ GE185.out|refine qd4 ?_ GE186.out)|exact HB.out)⟩
    ·
     replace c8:=Bool.eq_false_iff.mpr c8
     subst c8
     have H1 : (some false) = some r:=by rw [if_neg (show ¬ (false = true) by decide)] at H;exact H
     clear H
     have H:=H1
     clear H1
     obtain rfl:=sO H
     go_enter Try.func12,Try.ntmps12
     go_wp2_with (first|((with_reducible refine gate_dst (N:=2) rfl ?_);refine box_event ?hg (N:=2) ?hd (cs:=#[.int .i64 a0_0,.int .i64 a0_1,.slice A0_2 l0_2.length c0_2,.slice A0_3 l0_3.length c0_3]) (t:=31) ?hr ?_;(case hd => rfl);(case hg => rfl);(case hr => first|(go_simp;done)|(go_simp;rfl));intro gb185 hg w18 hbox hb;have n0_:=qe4 (sN (by repeat (first|(with_reducible first|exact HB.out|apply qa4|apply qb4|apply qc4)|exact HB.out)) hb);have n1_:=qe4 (hbox);have n2_:=qe4 ((by rw [hg];exact (below_size (by repeat (first|(with_reducible first|exact HB.out|apply qa4|apply qb4|apply qc4)|exact HB.out))) : w.heap.size ≤ gb185));have n3_:=qe4 ((by rw [hg];exact (below_size (by repeat (first|(with_reducible first|exact HB.out|apply qa4|apply qb4|apply qc4)|exact HB.out))) : w.heap.size ≤ gb185));clear HB;have HB:=n0_;have BK185:=n1_;have GW185:=n2_;have GE185:=n3_;clear n0_ n1_ n2_ n3_;clear hb hbox hg)|((with_reducible refine gate_dst (N:=3) rfl ?_);refine box_event ?hg (N:=3) ?hd (cs:=#[.int .i64 a1_0,.int .i64 a1_1,.slice A1_2 l1_2.length c1_2,.slice A1_3 l1_3.length c1_3]) (t:=31) ?hr ?_;(case hd => rfl);(case hg => rfl);(case hr => first|(go_simp;done)|(go_simp;rfl));intro gb186 hg w19 hbox hb;have n0_:=qe4 (blk_below (g:=gb185) (o:=.cells #[.int .i64 a0_0,.int .i64 a0_1,.slice A0_2 l0_2.length c0_2,.slice A0_3 l0_3.length c0_3] 31 (0,0)) (by (with_reducible repeat (first|apply blk_drewN|apply blk_drew|apply blk_alloc));exact BK185.out) hb);have n1_:=qe4 (sN (by repeat (first|(with_reducible first|exact HB.out|apply qa4|apply qb4|apply qc4|refine qd4 ?_ GE185.out)|exact HB.out)) hb);have n2_:=qe4 (hbox);have n3_:=qe4 ((by rw [hg];exact (below_size (by repeat (first|(with_reducible first|exact HB.out|apply qa4|apply qb4|apply qc4|refine qd4 ?_ GE185.out)|exact HB.out))) : w.heap.size ≤ gb186));have n4_:=qe4 ((by rw [hg];exact (below_size (by repeat (first|(with_reducible first|exact HB.out|apply qa4|apply qb4|apply qc4|refine qd4 ?_ GE185.out)|exact HB.out))) : w.heap.size ≤ gb186));have n5_:=qe4 ((by rw [hg];exact Nat.ne_of_lt (blk_lt (g:=gb185) (o:=.cells #[.int .i64 a0_0,.int .i64 a0_1,.slice A0_2 l0_2.length c0_2,.slice A0_3 l0_3.length c0_3] 31 (0,0)) (by (with_reducible repeat (first|apply blk_drewN|apply blk_drew|apply blk_alloc));exact BK185.out)) : gb185 ≠ gb186));have n6_:=qe4 ((by rw [hg];exact Nat.ne_of_gt (blk_lt (g:=gb185) (o:=.cells #[.int .i64 a0_0,.int .i64 a0_1,.slice A0_2 l0_2.length c0_2,.slice A0_3 l0_3.length c0_3] 31 (0,0)) (by (with_reducible repeat (first|apply blk_drewN|apply blk_drew|apply blk_alloc));exact BK185.out)) : gb186 ≠ gb185));clear BK185;clear HB;have BK185:=n0_;have HB:=n1_;have BK186:=n2_;have GW186:=n3_;have GE186:=n4_;have NB185_186:=n5_;have NB186_185:=n6_;clear n0_ n1_ n2_ n3_ n4_ n5_ n6_;clear hb hbox hg;have hnb20:=NB185_186.out;have hnc20:=NB186_185.out;have hcz21_0 : w19.cell? ⟨gb185,0,none⟩ = some (.int .i64 a0_0):=(blk_cell BK185.out 0).trans rfl;have hcz21_1 : w19.cell? ⟨gb185,1,none⟩ = some (.int .i64 a0_1):=(blk_cell BK185.out 1).trans rfl;have hcz21_2 : w19.cell? ⟨gb185,2,none⟩ = some (.slice A0_2 l0_2.length c0_2):=(blk_cell BK185.out 2).trans rfl;have hcz21_3 : w19.cell? ⟨gb185,3,none⟩ = some (.slice A0_3 l0_3.length c0_3):=(blk_cell BK185.out 3).trans rfl;have hfz21_0:=sJ BK185.out 0;have hfz21_1:=sJ BK185.out 1;have hfz21_2:=sJ BK185.out 2;have hfz21_3:=sJ BK185.out 3;have hcz22_0 : w19.cell? ⟨gb186,0,none⟩ = some (.int .i64 a1_0):=(blk_cell BK186.out 0).trans rfl;have hcz22_1 : w19.cell? ⟨gb186,1,none⟩ = some (.int .i64 a1_1):=(blk_cell BK186.out 1).trans rfl;have hcz22_2 : w19.cell? ⟨gb186,2,none⟩ = some (.slice A1_2 l1_2.length c1_2):=(blk_cell BK186.out 2).trans rfl;have hcz22_3 : w19.cell? ⟨gb186,3,none⟩ = some (.slice A1_3 l1_3.length c1_3):=(blk_cell BK186.out 3).trans rfl;have hfz22_0:=sJ BK186.out 0;have hfz22_1:=sJ BK186.out 1;have hfz22_2:=sJ BK186.out 2;have hfz22_3:=sJ BK186.out 3)|((with_reducible refine gate_callee (f:=49) rfl ?_);refine goesL_ (some 19) rfl rfl Try.func49 (by kernel_rfl) rfl #[.slice A0_2 l0_2.length c0_2,.slice A1_2 l1_2.length c1_2] rfl (by (try simp only [sE,sH,sI]);first|done|rfl|(simp only [sG,sF];rfl)) ?_;(with_reducible refine (laws_eqLockS.calls k _ _ l0_2 _ _ l1_2 true _ ?side1 ?side2 ?side3 ?side4 A5.out).mono ?_);(case side1 => repeat (first|exact (Kd.C_below HR0_2.out HB.out)|(with_reducible refine Kd.C_alloc ?_ _)|(with_reducible refine Kd.C_drewN ?_ _)|(with_reducible refine Kd.C_drew ?_)));(case side2 => exact HC0_2.out);(case side3 => repeat (first|exact (Kd.C_below HR1_2.out HB.out)|(with_reducible refine Kd.C_alloc ?_ _)|(with_reducible refine Kd.C_drewN ?_ _)|(with_reducible refine Kd.C_drew ?_)));(case side4 => exact HC1_2.out);rintro e w23 ⟨rfl,hb⟩;refine ⟨_,rfl,?_⟩;have n0_:=qe4 (blk_below (g:=gb185) (o:=.cells #[.int .i64 a0_0,.int .i64 a0_1,.slice A0_2 l0_2.length c0_2,.slice A0_3 l0_3.length c0_3] 31 (0,0)) (by (with_reducible repeat (first|apply blk_drewN|apply blk_drew|apply blk_alloc));exact BK185.out) hb);have n1_:=qe4 (blk_below (g:=gb186) (o:=.cells #[.int .i64 a1_0,.int .i64 a1_1,.slice A1_2 l1_2.length c1_2,.slice A1_3 l1_3.length c1_3] 31 (0,0)) (by (with_reducible repeat (first|apply blk_drewN|apply blk_drew|apply blk_alloc));exact BK186.out) hb);have n2_:=qe4 (sN (by repeat (first|(with_reducible first|exact HB.out|apply qa4|apply qb4|apply qc4|refine qd4 ?_ GE185.out|refine qd4 ?_ GE186.out)|exact HB.out)) hb);clear BK185;clear BK186;clear HB;have BK185:=n0_;have BK186:=n1_;have HB:=n2_;clear n0_ n1_ n2_;(try clear hb);(try clear hb2);(try clear hk);(try clear hi);have hcz24_0 : w23.cell? ⟨gb185,0,none⟩ = some (.int .i64 a0_0):=(blk_cell BK185.out 0).trans rfl;have hcz24_1 : w23.cell? ⟨gb185,1,none⟩ = some (.int .i64 a0_1):=(blk_cell BK185.out 1).trans rfl;have hcz24_2 : w23.cell? ⟨gb185,2,none⟩ = some (.slice A0_2 l0_2.length c0_2):=(blk_cell BK185.out 2).trans rfl;have hcz24_3 : w23.cell? ⟨gb185,3,none⟩ = some (.slice A0_3 l0_3.length c0_3):=(blk_cell BK185.out 3).trans rfl;have hfz24_0:=sJ BK185.out 0;have hfz24_1:=sJ BK185.out 1;have hfz24_2:=sJ BK185.out 2;have hfz24_3:=sJ BK185.out 3;have hcz25_0 : w23.cell? ⟨gb186,0,none⟩ = some (.int .i64 a1_0):=(blk_cell BK186.out 0).trans rfl;have hcz25_1 : w23.cell? ⟨gb186,1,none⟩ = some (.int .i64 a1_1):=(blk_cell BK186.out 1).trans rfl;have hcz25_2 : w23.cell? ⟨gb186,2,none⟩ = some (.slice A1_2 l1_2.length c1_2):=(blk_cell BK186.out 2).trans rfl;have hcz25_3 : w23.cell? ⟨gb186,3,none⟩ = some (.slice A1_3 l1_3.length c1_3):=(blk_cell BK186.out 3).trans rfl;have hfz25_0:=sJ BK186.out 0;have hfz25_1:=sJ BK186.out 1;have hfz25_2:=sJ BK186.out 2;have hfz25_3:=sJ BK186.out 3)|((with_reducible refine gate_callee (f:=50) rfl ?_);refine goesL_ (some 25) rfl rfl Try.func50 (by kernel_rfl) rfl #[.slice A0_3 l0_3.length c0_3,.slice A1_3 l1_3.length c1_3] rfl (by (try simp only [sE,sH,sI]);first|done|rfl|(simp only [sG,sF];rfl)) ?_;(with_reducible refine (laws_eqSeenS.calls k _ _ l0_3 _ _ l1_3 false _ ?side1 ?side2 ?side3 ?side4 A7.out).mono ?_);(case side1 => repeat (first|exact (Kd.C_below HR0_3.out HB.out)|(with_reducible refine Kd.C_alloc ?_ _)|(with_reducible refine Kd.C_drewN ?_ _)|(with_reducible refine Kd.C_drew ?_)));(case side2 => exact HC0_3.out);(case side3 => repeat (first|exact (Kd.C_below HR1_3.out HB.out)|(with_reducible refine Kd.C_alloc ?_ _)|(with_reducible refine Kd.C_drewN ?_ _)|(with_reducible refine Kd.C_drew ?_)));(case side4 => exact HC1_3.out);rintro e w26 ⟨rfl,hb⟩;refine ⟨_,rfl,?_⟩;have n0_:=qe4 (blk_below (g:=gb185) (o:=.cells #[.int .i64 a0_0,.int .i64 a0_1,.slice A0_2 l0_2.length c0_2,.slice A0_3 l0_3.length c0_3] 31 (0,0)) (by (with_reducible repeat (first|apply blk_drewN|apply blk_drew|apply blk_alloc));exact BK185.out) hb);have n1_:=qe4 (blk_below (g:=gb186) (o:=.cells #[.int .i64 a1_0,.int .i64 a1_1,.slice A1_2 l1_2.length c1_2,.slice A1_3 l1_3.length c1_3] 31 (0,0)) (by (with_reducible repeat (first|apply blk_drewN|apply blk_drew|apply blk_alloc));exact BK186.out) hb);have n2_:=qe4 (sN (by repeat (first|(with_reducible first|exact HB.out|apply qa4|apply qb4|apply qc4|refine qd4 ?_ GE185.out|refine qd4 ?_ GE186.out)|exact HB.out)) hb);clear BK185;clear BK186;clear HB;have BK185:=n0_;have BK186:=n1_;have HB:=n2_;clear n0_ n1_ n2_;(try clear hb);(try clear hb2);(try clear hk);(try clear hi)))
     go_ret
     exact ⟨by first|rfl|(simp [errW_none,errW_some] <;> rfl)|(simp [*,errW_none,errW_some] <;> rfl),by repeat (first|(with_reducible first|exact HB.out|apply qa4|apply qb4|apply qc4|refine qd4 ?_ GE185.out|refine qd4 ?_ GE186.out)|exact HB.out)⟩
   ·
    replace c6:=Bool.eq_false_iff.mpr c6
    subst c6
    have H1 : (some false) = some r:=by rw [if_neg (show ¬ (false = true) by decide)] at H;exact H
    clear H
    have H:=H1
    clear H1
    obtain rfl:=sO H
    go_enter Try.func12,Try.ntmps12
    go_wp2_with (first|((with_reducible refine gate_dst (N:=2) rfl ?_);refine box_event ?hg (N:=2) ?hd (cs:=#[.int .i64 a0_0,.int .i64 a0_1,.slice A0_2 l0_2.length c0_2,.slice A0_3 l0_3.length c0_3]) (t:=31) ?hr ?_;(case hd => rfl);(case hg => rfl);(case hr => first|(go_simp;done)|(go_simp;rfl));intro gb185 hg w27 hbox hb;have n0_:=qe4 (sN (by repeat (first|(with_reducible first|exact HB.out|apply qa4|apply qb4|apply qc4)|exact HB.out)) hb);have n1_:=qe4 (hbox);have n2_:=qe4 ((by rw [hg];exact (below_size (by repeat (first|(with_reducible first|exact HB.out|apply qa4|apply qb4|apply qc4)|exact HB.out))) : w.heap.size ≤ gb185));have n3_:=qe4 ((by rw [hg];exact (below_size (by repeat (first|(with_reducible first|exact HB.out|apply qa4|apply qb4|apply qc4)|exact HB.out))) : w.heap.size ≤ gb185));clear HB;have HB:=n0_;have BK185:=n1_;have GW185:=n2_;have GE185:=n3_;clear n0_ n1_ n2_ n3_;clear hb hbox hg)|((with_reducible refine gate_dst (N:=3) rfl ?_);refine box_event ?hg (N:=3) ?hd (cs:=#[.int .i64 a1_0,.int .i64 a1_1,.slice A1_2 l1_2.length c1_2,.slice A1_3 l1_3.length c1_3]) (t:=31) ?hr ?_;(case hd => rfl);(case hg => rfl);(case hr => first|(go_simp;done)|(go_simp;rfl));intro gb186 hg w28 hbox hb;have n0_:=qe4 (blk_below (g:=gb185) (o:=.cells #[.int .i64 a0_0,.int .i64 a0_1,.slice A0_2 l0_2.length c0_2,.slice A0_3 l0_3.length c0_3] 31 (0,0)) (by (with_reducible repeat (first|apply blk_drewN|apply blk_drew|apply blk_alloc));exact BK185.out) hb);have n1_:=qe4 (sN (by repeat (first|(with_reducible first|exact HB.out|apply qa4|apply qb4|apply qc4|refine qd4 ?_ GE185.out)|exact HB.out)) hb);have n2_:=qe4 (hbox);have n3_:=qe4 ((by rw [hg];exact (below_size (by repeat (first|(with_reducible first|exact HB.out|apply qa4|apply qb4|apply qc4|refine qd4 ?_ GE185.out)|exact HB.out))) : w.heap.size ≤ gb186));have n4_:=qe4 ((by rw [hg];exact (below_size (by repeat (first|(with_reducible first|exact HB.out|apply qa4|apply qb4|apply qc4|refine qd4 ?_ GE185.out)|exact HB.out))) : w.heap.size ≤ gb186));have n5_:=qe4 ((by rw [hg];exact Nat.ne_of_lt (blk_lt (g:=gb185) (o:=.cells #[.int .i64 a0_0,.int .i64 a0_1,.slice A0_2 l0_2.length c0_2,.slice A0_3 l0_3.length c0_3] 31 (0,0)) (by (with_reducible repeat (first|apply blk_drewN|apply blk_drew|apply blk_alloc));exact BK185.out)) : gb185 ≠ gb186));have n6_:=qe4 ((by rw [hg];exact Nat.ne_of_gt (blk_lt (g:=gb185) (o:=.cells #[.int .i64 a0_0,.int .i64 a0_1,.slice A0_2 l0_2.length c0_2,.slice A0_3 l0_3.length c0_3] 31 (0,0)) (by (with_reducible repeat (first|apply blk_drewN|apply blk_drew|apply blk_alloc));exact BK185.out)) : gb186 ≠ gb185));clear BK185;clear HB;have BK185:=n0_;have HB:=n1_;have BK186:=n2_;have GW186:=n3_;have GE186:=n4_;have NB185_186:=n5_;have NB186_185:=n6_;clear n0_ n1_ n2_ n3_ n4_ n5_ n6_;clear hb hbox hg;have hnb29:=NB185_186.out;have hnc29:=NB186_185.out;have hcz30_0 : w28.cell? ⟨gb185,0,none⟩ = some (.int .i64 a0_0):=(blk_cell BK185.out 0).trans rfl;have hcz30_1 : w28.cell? ⟨gb185,1,none⟩ = some (.int .i64 a0_1):=(blk_cell BK185.out 1).trans rfl;have hcz30_2 : w28.cell? ⟨gb185,2,none⟩ = some (.slice A0_2 l0_2.length c0_2):=(blk_cell BK185.out 2).trans rfl;have hcz30_3 : w28.cell? ⟨gb185,3,none⟩ = some (.slice A0_3 l0_3.length c0_3):=(blk_cell BK185.out 3).trans rfl;have hfz30_0:=sJ BK185.out 0;have hfz30_1:=sJ BK185.out 1;have hfz30_2:=sJ BK185.out 2;have hfz30_3:=sJ BK185.out 3;have hcz31_0 : w28.cell? ⟨gb186,0,none⟩ = some (.int .i64 a1_0):=(blk_cell BK186.out 0).trans rfl;have hcz31_1 : w28.cell? ⟨gb186,1,none⟩ = some (.int .i64 a1_1):=(blk_cell BK186.out 1).trans rfl;have hcz31_2 : w28.cell? ⟨gb186,2,none⟩ = some (.slice A1_2 l1_2.length c1_2):=(blk_cell BK186.out 2).trans rfl;have hcz31_3 : w28.cell? ⟨gb186,3,none⟩ = some (.slice A1_3 l1_3.length c1_3):=(blk_cell BK186.out 3).trans rfl;have hfz31_0:=sJ BK186.out 0;have hfz31_1:=sJ BK186.out 1;have hfz31_2:=sJ BK186.out 2;have hfz31_3:=sJ BK186.out 3)|((with_reducible refine gate_callee (f:=49) rfl ?_);refine goesL_ (some 19) rfl rfl Try.func49 (by kernel_rfl) rfl #[.slice A0_2 l0_2.length c0_2,.slice A1_2 l1_2.length c1_2] rfl (by (try simp only [sE,sH,sI]);first|done|rfl|(simp only [sG,sF];rfl)) ?_;(with_reducible refine (laws_eqLockS.calls k _ _ l0_2 _ _ l1_2 false _ ?side1 ?side2 ?side3 ?side4 A5.out).mono ?_);(case side1 => repeat (first|exact (Kd.C_below HR0_2.out HB.out)|(with_reducible refine Kd.C_alloc ?_ _)|(with_reducible refine Kd.C_drewN ?_ _)|(with_reducible refine Kd.C_drew ?_)));(case side2 => exact HC0_2.out);(case side3 => repeat (first|exact (Kd.C_below HR1_2.out HB.out)|(with_reducible refine Kd.C_alloc ?_ _)|(with_reducible refine Kd.C_drewN ?_ _)|(with_reducible refine Kd.C_drew ?_)));(case side4 => exact HC1_2.out);rintro e w32 ⟨rfl,hb⟩;refine ⟨_,rfl,?_⟩;have n0_:=qe4 (blk_below (g:=gb185) (o:=.cells #[.int .i64 a0_0,.int .i64 a0_1,.slice A0_2 l0_2.length c0_2,.slice A0_3 l0_3.length c0_3] 31 (0,0)) (by (with_reducible repeat (first|apply blk_drewN|apply blk_drew|apply blk_alloc));exact BK185.out) hb);have n1_:=qe4 (blk_below (g:=gb186) (o:=.cells #[.int .i64 a1_0,.int .i64 a1_1,.slice A1_2 l1_2.length c1_2,.slice A1_3 l1_3.length c1_3] 31 (0,0)) (by (with_reducible repeat (first|apply blk_drewN|apply blk_drew|apply blk_alloc));exact BK186.out) hb);have n2_:=qe4 (sN (by repeat (first|(with_reducible first|exact HB.out|apply qa4|apply qb4|apply qc4|refine qd4 ?_ GE185.out|refine qd4 ?_ GE186.out)|exact HB.out)) hb);clear BK185;clear BK186;clear HB;have BK185:=n0_;have BK186:=n1_;have HB:=n2_;clear n0_ n1_ n2_;(try clear hb);(try clear hb2);(try clear hk);(try clear hi)))
    go_ret
    exact ⟨by first|rfl|(simp [errW_none,errW_some] <;> rfl)|(simp [*,errW_none,errW_some] <;> rfl),by repeat (first|(with_reducible first|exact HB.out|apply qa4|apply qb4|apply qc4|refine qd4 ?_ GE185.out|refine qd4 ?_ GE186.out)|exact HB.out)⟩
  ·
   rw [if_neg c4] at H
   have c4b0 : (a0_1 == a1_1) = false:=beq_eq_false_iff_ne.mpr c4
   have c4b1 : (a0_1 != a1_1) = true:=bne_iff_ne.mpr c4
   obtain rfl:=sO H
   go_enter Try.func12,Try.ntmps12
   go_wp2_with (first|((with_reducible refine gate_dst (N:=2) rfl ?_);refine box_event ?hg (N:=2) ?hd (cs:=#[.int .i64 a0_0,.int .i64 a0_1,.slice A0_2 l0_2.length c0_2,.slice A0_3 l0_3.length c0_3]) (t:=31) ?hr ?_;(case hd => rfl);(case hg => rfl);(case hr => first|(go_simp;done)|(go_simp;rfl));intro gb185 hg w33 hbox hb;have n0_:=qe4 (sN (by repeat (first|(with_reducible first|exact HB.out|apply qa4|apply qb4|apply qc4)|exact HB.out)) hb);have n1_:=qe4 (hbox);have n2_:=qe4 ((by rw [hg];exact (below_size (by repeat (first|(with_reducible first|exact HB.out|apply qa4|apply qb4|apply qc4)|exact HB.out))) : w.heap.size ≤ gb185));have n3_:=qe4 ((by rw [hg];exact (below_size (by repeat (first|(with_reducible first|exact HB.out|apply qa4|apply qb4|apply qc4)|exact HB.out))) : w.heap.size ≤ gb185));clear HB;have HB:=n0_;have BK185:=n1_;have GW185:=n2_;have GE185:=n3_;clear n0_ n1_ n2_ n3_;clear hb hbox hg)|((with_reducible refine gate_dst (N:=3) rfl ?_);refine box_event ?hg (N:=3) ?hd (cs:=#[.int .i64 a1_0,.int .i64 a1_1,.slice A1_2 l1_2.length c1_2,.slice A1_3 l1_3.length c1_3]) (t:=31) ?hr ?_;(case hd => rfl);(case hg => rfl);(case hr => first|(go_simp;done)|(go_simp;rfl));intro gb186 hg w34 hbox hb;have n0_:=qe4 (blk_below (g:=gb185) (o:=.cells #[.int .i64 a0_0,.int .i64 a0_1,.slice A0_2 l0_2.length c0_2,.slice A0_3 l0_3.length c0_3] 31 (0,0)) (by (with_reducible repeat (first|apply blk_drewN|apply blk_drew|apply blk_alloc));exact BK185.out) hb);have n1_:=qe4 (sN (by repeat (first|(with_reducible first|exact HB.out|apply qa4|apply qb4|apply qc4|refine qd4 ?_ GE185.out)|exact HB.out)) hb);have n2_:=qe4 (hbox);have n3_:=qe4 ((by rw [hg];exact (below_size (by repeat (first|(with_reducible first|exact HB.out|apply qa4|apply qb4|apply qc4|refine qd4 ?_ GE185.out)|exact HB.out))) : w.heap.size ≤ gb186));have n4_:=qe4 ((by rw [hg];exact (below_size (by repeat (first|(with_reducible first|exact HB.out|apply qa4|apply qb4|apply qc4|refine qd4 ?_ GE185.out)|exact HB.out))) : w.heap.size ≤ gb186));have n5_:=qe4 ((by rw [hg];exact Nat.ne_of_lt (blk_lt (g:=gb185) (o:=.cells #[.int .i64 a0_0,.int .i64 a0_1,.slice A0_2 l0_2.length c0_2,.slice A0_3 l0_3.length c0_3] 31 (0,0)) (by (with_reducible repeat (first|apply blk_drewN|apply blk_drew|apply blk_alloc));exact BK185.out)) : gb185 ≠ gb186));have n6_:=qe4 ((by rw [hg];exact Nat.ne_of_gt (blk_lt (g:=gb185) (o:=.cells #[.int .i64 a0_0,.int .i64 a0_1,.slice A0_2 l0_2.length c0_2,.slice A0_3 l0_3.length c0_3] 31 (0,0)) (by (with_reducible repeat (first|apply blk_drewN|apply blk_drew|apply blk_alloc));exact BK185.out)) : gb186 ≠ gb185));clear BK185;clear HB;have BK185:=n0_;have HB:=n1_;have BK186:=n2_;have GW186:=n3_;have GE186:=n4_;have NB185_186:=n5_;have NB186_185:=n6_;clear n0_ n1_ n2_ n3_ n4_ n5_ n6_;clear hb hbox hg;have hnb35:=NB185_186.out;have hnc35:=NB186_185.out;have hcz36_0 : w34.cell? ⟨gb185,0,none⟩ = some (.int .i64 a0_0):=(blk_cell BK185.out 0).trans rfl;have hcz36_1 : w34.cell? ⟨gb185,1,none⟩ = some (.int .i64 a0_1):=(blk_cell BK185.out 1).trans rfl;have hcz36_2 : w34.cell? ⟨gb185,2,none⟩ = some (.slice A0_2 l0_2.length c0_2):=(blk_cell BK185.out 2).trans rfl;have hcz36_3 : w34.cell? ⟨gb185,3,none⟩ = some (.slice A0_3 l0_3.length c0_3):=(blk_cell BK185.out 3).trans rfl;have hfz36_0:=sJ BK185.out 0;have hfz36_1:=sJ BK185.out 1;have hfz36_2:=sJ BK185.out 2;have hfz36_3:=sJ BK185.out 3;have hcz37_0 : w34.cell? ⟨gb186,0,none⟩ = some (.int .i64 a1_0):=(blk_cell BK186.out 0).trans rfl;have hcz37_1 : w34.cell? ⟨gb186,1,none⟩ = some (.int .i64 a1_1):=(blk_cell BK186.out 1).trans rfl;have hcz37_2 : w34.cell? ⟨gb186,2,none⟩ = some (.slice A1_2 l1_2.length c1_2):=(blk_cell BK186.out 2).trans rfl;have hcz37_3 : w34.cell? ⟨gb186,3,none⟩ = some (.slice A1_3 l1_3.length c1_3):=(blk_cell BK186.out 3).trans rfl;have hfz37_0:=sJ BK186.out 0;have hfz37_1:=sJ BK186.out 1;have hfz37_2:=sJ BK186.out 2;have hfz37_3:=sJ BK186.out 3))
   go_ret
   exact ⟨by first|rfl|(simp [errW_none,errW_some] <;> rfl)|(simp [*,errW_none,errW_some] <;> rfl),by repeat (first|(with_reducible first|exact HB.out|apply qa4|apply qb4|apply qc4|refine qd4 ?_ GE185.out|refine qd4 ?_ GE186.out)|exact HB.out)⟩
 ·
  rw [if_neg c3] at H
  have c3b0 : (a0_0 == a1_0) = false:=beq_eq_false_iff_ne.mpr c3
  have c3b1 : (a0_0 != a1_0) = true:=bne_iff_ne.mpr c3
  obtain rfl:=sO H
  go_enter Try.func12,Try.ntmps12
  go_wp2_with (first|((with_reducible refine gate_dst (N:=2) rfl ?_);refine box_event ?hg (N:=2) ?hd (cs:=#[.int .i64 a0_0,.int .i64 a0_1,.slice A0_2 l0_2.length c0_2,.slice A0_3 l0_3.length c0_3]) (t:=31) ?hr ?_;(case hd => rfl);(case hg => rfl);(case hr => first|(go_simp;done)|(go_simp;rfl));intro gb185 hg w38 hbox hb;have n0_:=qe4 (sN (by repeat (first|(with_reducible first|exact HB.out|apply qa4|apply qb4|apply qc4)|exact HB.out)) hb);have n1_:=qe4 (hbox);have n2_:=qe4 ((by rw [hg];exact (below_size (by repeat (first|(with_reducible first|exact HB.out|apply qa4|apply qb4|apply qc4)|exact HB.out))) : w.heap.size ≤ gb185));have n3_:=qe4 ((by rw [hg];exact (below_size (by repeat (first|(with_reducible first|exact HB.out|apply qa4|apply qb4|apply qc4)|exact HB.out))) : w.heap.size ≤ gb185));clear HB;have HB:=n0_;have BK185:=n1_;have GW185:=n2_;have GE185:=n3_;clear n0_ n1_ n2_ n3_;clear hb hbox hg)|((with_reducible refine gate_dst (N:=3) rfl ?_);refine box_event ?hg (N:=3) ?hd (cs:=#[.int .i64 a1_0,.int .i64 a1_1,.slice A1_2 l1_2.length c1_2,.slice A1_3 l1_3.length c1_3]) (t:=31) ?hr ?_;(case hd => rfl);(case hg => rfl);(case hr => first|(go_simp;done)|(go_simp;rfl));intro gb186 hg w39 hbox hb;have n0_:=qe4 (blk_below (g:=gb185) (o:=.cells #[.int .i64 a0_0,.int .i64 a0_1,.slice A0_2 l0_2.length c0_2,.slice A0_3 l0_3.length c0_3] 31 (0,0)) (by (with_reducible repeat (first|apply blk_drewN|apply blk_drew|apply blk_alloc));exact BK185.out) hb);have n1_:=qe4 (sN (by repeat (first|(with_reducible first|exact HB.out|apply qa4|apply qb4|apply qc4|refine qd4 ?_ GE185.out)|exact HB.out)) hb);have n2_:=qe4 (hbox);have n3_:=qe4 ((by rw [hg];exact (below_size (by repeat (first|(with_reducible first|exact HB.out|apply qa4|apply qb4|apply qc4|refine qd4 ?_ GE185.out)|exact HB.out))) : w.heap.size ≤ gb186));have n4_:=qe4 ((by rw [hg];exact (below_size (by repeat (first|(with_reducible first|exact HB.out|apply qa4|apply qb4|apply qc4|refine qd4 ?_ GE185.out)|exact HB.out))) : w.heap.size ≤ gb186));have n5_:=qe4 ((by rw [hg];exact Nat.ne_of_lt (blk_lt (g:=gb185) (o:=.cells #[.int .i64 a0_0,.int .i64 a0_1,.slice A0_2 l0_2.length c0_2,.slice A0_3 l0_3.length c0_3] 31 (0,0)) (by (with_reducible repeat (first|apply blk_drewN|apply blk_drew|apply blk_alloc));exact BK185.out)) : gb185 ≠ gb186));have n6_:=qe4 ((by rw [hg];exact Nat.ne_of_gt (blk_lt (g:=gb185) (o:=.cells #[.int .i64 a0_0,.int .i64 a0_1,.slice A0_2 l0_2.length c0_2,.slice A0_3 l0_3.length c0_3] 31 (0,0)) (by (with_reducible repeat (first|apply blk_drewN|apply blk_drew|apply blk_alloc));exact BK185.out)) : gb186 ≠ gb185));clear BK185;clear HB;have BK185:=n0_;have HB:=n1_;have BK186:=n2_;have GW186:=n3_;have GE186:=n4_;have NB185_186:=n5_;have NB186_185:=n6_;clear n0_ n1_ n2_ n3_ n4_ n5_ n6_;clear hb hbox hg;have hnb40:=NB185_186.out;have hnc40:=NB186_185.out;have hcz41_0 : w39.cell? ⟨gb185,0,none⟩ = some (.int .i64 a0_0):=(blk_cell BK185.out 0).trans rfl;have hcz41_1 : w39.cell? ⟨gb185,1,none⟩ = some (.int .i64 a0_1):=(blk_cell BK185.out 1).trans rfl;have hcz41_2 : w39.cell? ⟨gb185,2,none⟩ = some (.slice A0_2 l0_2.length c0_2):=(blk_cell BK185.out 2).trans rfl;have hcz41_3 : w39.cell? ⟨gb185,3,none⟩ = some (.slice A0_3 l0_3.length c0_3):=(blk_cell BK185.out 3).trans rfl;have hfz41_0:=sJ BK185.out 0;have hfz41_1:=sJ BK185.out 1;have hfz41_2:=sJ BK185.out 2;have hfz41_3:=sJ BK185.out 3;have hcz42_0 : w39.cell? ⟨gb186,0,none⟩ = some (.int .i64 a1_0):=(blk_cell BK186.out 0).trans rfl;have hcz42_1 : w39.cell? ⟨gb186,1,none⟩ = some (.int .i64 a1_1):=(blk_cell BK186.out 1).trans rfl;have hcz42_2 : w39.cell? ⟨gb186,2,none⟩ = some (.slice A1_2 l1_2.length c1_2):=(blk_cell BK186.out 2).trans rfl;have hcz42_3 : w39.cell? ⟨gb186,3,none⟩ = some (.slice A1_3 l1_3.length c1_3):=(blk_cell BK186.out 3).trans rfl;have hfz42_0:=sJ BK186.out 0;have hfz42_1:=sJ BK186.out 1;have hfz42_2:=sJ BK186.out 2;have hfz42_3:=sJ BK186.out 3))
  go_ret
  exact ⟨by first|rfl|(simp [errW_none,errW_some] <;> rfl)|(simp [*,errW_none,errW_some] <;> rfl),by repeat (first|(with_reducible first|exact HB.out|apply qa4|apply qb4|apply qc4|refine qd4 ?_ GE185.out|refine qd4 ?_ GE186.out)|exact HB.out)⟩

/-! ### spec_l01In: function 41 -/
def spec_l01In.f (a0 : Int) (a1 : Int) (a2 : Int) : Option (Bool):=if a0 ≥ a1 then (some (decide (a0 ≤ a2))) else (some false)
set_option maxHeartbeats 8000000 in
set_option maxRecDepth 100000 in
theorem spec_l01In.calls (a0 : Int) (a1 : Int) (a2 : Int) (r : Bool) (w : World) (h : spec_l01In.f a0 a1 a2 = some r) :
  Calls Try.prog 41 #[.int .i64 a0,.int .i64 a1,.int .i64 a2] w fun e w' => e = .returned (.bool r) ∧ Drawn0 w w':=by
 have H : (if a0 ≥ a1 then (some (decide (a0 ≤ a2))) else (some false)) = some r:=h
 clear h
 by_cases c4 : a0 ≥ a1
 ·
  rw [if_pos c4] at H
  have c4b0 : decide (a1 ≤ a0) = true:=decide_eq_true c4
  clear c4
  obtain rfl:=sO H
  go_enter Try.func41,Try.ntmps41
  go_wp2
  go_ret
  exact ⟨by first|rfl|(simp;done)|(simp [*];done),by repeat (first|exact Drawn0.refl _|apply Drawn0.step)⟩
 ·
  rw [if_neg c4] at H
  have c4b0 : decide (a1 ≤ a0) = false:=decide_eq_false c4
  clear c4
  obtain rfl:=sO H
  go_enter Try.func41,Try.ntmps41
  go_wp2
  go_ret
  exact ⟨by first|rfl|(simp;done)|(simp [*];done),by repeat (first|exact Drawn0.refl _|apply Drawn0.step)⟩

/-! ### spec_l00Letter: function 123 -/
def spec_l00Letter.f (a0 : Int) : Option (Bool):=if a0 ≥ 97 then (if a0 ≤ 122 then (some true) else (if a0 ≥ 65 then (if a0 ≤ 90 then (some true) else (some (a0 == 95))) else (some (a0 == 95)))) else (if a0 ≥ 65 then (if a0 ≤ 90 then (some true) else (some (a0 == 95))) else (some (a0 == 95)))
set_option maxHeartbeats 8000000 in
set_option maxRecDepth 100000 in
theorem spec_l00Letter.calls (a0 : Int) (r : Bool) (w : World) (h : spec_l00Letter.f a0 = some r) :
  Calls Try.prog 123 #[.int .u8 a0] w fun e w' => e = .returned (.bool r) ∧ Drawn0 w w':=by
 have H : (if a0 ≥ 97 then (if a0 ≤ 122 then (some true) else (if a0 ≥ 65 then (if a0 ≤ 90 then (some true) else (some (a0 == 95))) else (some (a0 == 95)))) else (if a0 ≥ 65 then (if a0 ≤ 90 then (some true) else (some (a0 == 95))) else (some (a0 == 95)))) = some r:=h
 clear h
 by_cases c2 : a0 ≥ 97
 ·
  rw [if_pos c2] at H
  have c2b0 : decide (97 ≤ a0) = true:=decide_eq_true c2
  clear c2
  by_cases c3 : a0 ≤ 122
  ·
   rw [if_pos c3] at H
   have c3b0 : decide (a0 ≤ 122) = true:=decide_eq_true c3
   clear c3
   obtain rfl:=sO H
   go_enter Try.func123,Try.ntmps123
   go_wp2
   go_ret
   exact ⟨by first|rfl|(simp;done)|(simp [*];done),by repeat (first|exact Drawn0.refl _|apply Drawn0.step)⟩
  ·
   rw [if_neg c3] at H
   have c3b0 : decide (a0 ≤ 122) = false:=decide_eq_false c3
   clear c3
   by_cases c4 : a0 ≥ 65
   ·
    rw [if_pos c4] at H
    have c4b0 : decide (65 ≤ a0) = true:=decide_eq_true c4
    clear c4
    by_cases c5 : a0 ≤ 90
    ·
     rw [if_pos c5] at H
     have c5b0 : decide (a0 ≤ 90) = true:=decide_eq_true c5
     clear c5
     obtain rfl:=sO H
     go_enter Try.func123,Try.ntmps123
     go_wp2
     go_ret
     exact ⟨by first|rfl|(simp;done)|(simp [*];done),by repeat (first|exact Drawn0.refl _|apply Drawn0.step)⟩
    ·
     rw [if_neg c5] at H
     have c5b0 : decide (a0 ≤ 90) = false:=decide_eq_false c5
     clear c5
     obtain rfl:=sO H
     go_enter Try.func123,Try.ntmps123
     go_wp2
     go_ret
     exact ⟨by first|rfl|(simp;done)|(simp [*];done),by repeat (first|exact Drawn0.refl _|apply Drawn0.step)⟩
   ·
    rw [if_neg c4] at H
    have c4b0 : decide (65 ≤ a0) = false:=decide_eq_false c4
    clear c4
    obtain rfl:=sO H
    go_enter Try.func123,Try.ntmps123
    go_wp2
    go_ret
    exact ⟨by first|rfl|(simp;done)|(simp [*];done),by repeat (first|exact Drawn0.refl _|apply Drawn0.step)⟩
 ·
  rw [if_neg c2] at H
  have c2b0 : decide (97 ≤ a0) = false:=decide_eq_false c2
  clear c2
  by_cases c6 : a0 ≥ 65
  ·
   rw [if_pos c6] at H
   have c6b0 : decide (65 ≤ a0) = true:=decide_eq_true c6
   clear c6
   by_cases c7 : a0 ≤ 90
   ·
    rw [if_pos c7] at H
    have c7b0 : decide (a0 ≤ 90) = true:=decide_eq_true c7
    clear c7
    obtain rfl:=sO H
    go_enter Try.func123,Try.ntmps123
    go_wp2
    go_ret
    exact ⟨by first|rfl|(simp;done)|(simp [*];done),by repeat (first|exact Drawn0.refl _|apply Drawn0.step)⟩
   ·
    rw [if_neg c7] at H
    have c7b0 : decide (a0 ≤ 90) = false:=decide_eq_false c7
    clear c7
    obtain rfl:=sO H
    go_enter Try.func123,Try.ntmps123
    go_wp2
    go_ret
    exact ⟨by first|rfl|(simp;done)|(simp [*];done),by repeat (first|exact Drawn0.refl _|apply Drawn0.step)⟩
  ·
   rw [if_neg c6] at H
   have c6b0 : decide (65 ≤ a0) = false:=decide_eq_false c6
   clear c6
   obtain rfl:=sO H
   go_enter Try.func123,Try.ntmps123
   go_wp2
   go_ret
   exact ⟨by first|rfl|(simp;done)|(simp [*];done),by repeat (first|exact Drawn0.refl _|apply Drawn0.step)⟩

/-! ### spec_l00Digit: function 124 -/
def spec_l00Digit.f (a0 : Int) : Option (Bool):=if a0 ≥ 48 then (some (decide (a0 ≤ 57))) else (some false)
set_option maxHeartbeats 8000000 in
set_option maxRecDepth 100000 in
theorem spec_l00Digit.calls (a0 : Int) (r : Bool) (w : World) (h : spec_l00Digit.f a0 = some r) :
  Calls Try.prog 124 #[.int .u8 a0] w fun e w' => e = .returned (.bool r) ∧ Drawn0 w w':=by
 have H : (if a0 ≥ 48 then (some (decide (a0 ≤ 57))) else (some false)) = some r:=h
 clear h
 by_cases c2 : a0 ≥ 48
 ·
  rw [if_pos c2] at H
  have c2b0 : decide (48 ≤ a0) = true:=decide_eq_true c2
  clear c2
  obtain rfl:=sO H
  go_enter Try.func124,Try.ntmps124
  go_wp2
  go_ret
  exact ⟨by first|rfl|(simp;done)|(simp [*];done),by repeat (first|exact Drawn0.refl _|apply Drawn0.step)⟩
 ·
  rw [if_neg c2] at H
  have c2b0 : decide (48 ≤ a0) = false:=decide_eq_false c2
  clear c2
  obtain rfl:=sO H
  go_enter Try.func124,Try.ntmps124
  go_wp2
  go_ret
  exact ⟨by first|rfl|(simp;done)|(simp [*];done),by repeat (first|exact Drawn0.refl _|apply Drawn0.step)⟩

end Go.Proofs.Ytjkanhjapddhnaa.PFnExactSameTable
