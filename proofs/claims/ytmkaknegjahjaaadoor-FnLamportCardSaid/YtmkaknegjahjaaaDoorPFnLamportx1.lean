-- laid by this session's program myprint.py over the kit's printer
-- squeezed
-- aliased
import Derived.Test.YtmkaknegjahjaaaDoorPFnLamportx0
namespace Go.Proofs.YtmkaknegjahjaaaDoor.PFnLamport
open Go.RowKit Go.Proofs.YtmkaknegjahjaaaDoorV.PrintWords Go.Proofs.YtmkaknegjahjaaaDoorV.PrintLast Go.Proofs.YtmkaknegjahjaaaDoorV.PrintMore
attribute [local go_sem] max2_int min2_int max_two min_two max_three min_three max_four min_four u8_wm u32_wm   -- for this text's walks alone
set_option linter.unusedVariables false
set_option linter.unusedSimpArgs false

/-! ### impl_hash: function 50, given -/
theorem qa1 : type_of% @Kd.R_alloc:=@Kd.R_alloc
theorem qb1 : type_of% @Kd.R_drewN:=@Kd.R_drewN
theorem qc1 : type_of% @Kd.R_drew:=@Kd.R_drew
theorem qd1 : type_of% @below_alloc:=@below_alloc
theorem qe1 : type_of% @pw_below_drewN:=@pw_below_drewN
theorem qf1 : type_of% @below_drew1:=@below_drew1
theorem qg1 : type_of% @Aside0.mk:=@Aside0.mk
def impl_hash.f (t : ByteArray) : Option ByteArray:=if t.size ≤ 1099511627776 then some (Go.Proofs.YtmkaknegjahjaaaDoor.Sha.sha t) else none
theorem impl_hash.calls (t r : ByteArray) (w : World) (hG_ : Go.Proofs.YtmkaknegjahjaaaDoor.Sha.GlobA w) (h : impl_hash.f t = some r) : Calls Tryd.prog 50 #[.string t] w fun e w' => e = .returned (.string r) ∧ Below w.heap.size w w':=by
 have hs : t.size ≤ 1099511627776:=by
  rcases Nat.lt_or_ge 1099511627776 t.size with hl|hl
  ·
   rw [impl_hash.f,if_neg (by omega)] at h;cases h
  ·
   exact hl
 rw [impl_hash.f,if_pos hs] at h
 injection h with h
 subst h
 exact Go.Proofs.YtmkaknegjahjaaaDoor.Sha.hash_calls t w hG_ hs


/-! ### impl_Hash: function 10 -/
def impl_Hash.f (l0 : List Int) : Option (ByteArray):=if (l0.length : Int) > 65536 then (some (⟨#[]⟩ : ByteArray)) else ((impl_hash.f (strOfNums l0)).bind fun t101 => (some t101))
set_option maxHeartbeats 8000000 in
set_option maxRecDepth 100000 in
theorem impl_Hash.calls (A0 : Option Addr) (c0 : Nat) (l0 : List Int) (r : ByteArray) (w : World) (hr0 : Kd.C (Kd.int .u8) w A0 l0.length l0) (hc0 : l0.length ≤ c0) (hG_ : Go.Proofs.YtmkaknegjahjaaaDoor.Sha.GlobA w) (h : impl_Hash.f l0 = some r) :
  Calls Tryd.prog 10 #[.slice A0 l0.length c0] w fun e w' => e = .returned (.string r) ∧ Below w.heap.size w w':=by
 have HR0:=qg1 hr0
 have HC0:=qg1 hc0
 clear hr0 hc0
 have HB:=qg1 (Below.refl w.heap.size w)
 have H : (if (l0.length : Int) > 65536 then (some (⟨#[]⟩ : ByteArray)) else ((impl_hash.f (strOfNums l0)).bind fun t101 => (some t101))) = some r:=h
 clear h
 by_cases c2 : (l0.length : Int) > 65536
 ·
  rw [if_pos c2] at H
  have c2b0 : decide (65536 < (l0.length : Int)) = true:=decide_eq_true c2
  have c2b1 : decide (65536 < l0.length) = true:=decide_eq_true (by omega)
  clear c2
  obtain rfl:=Option.some.inj H
  go_enter Tryd.func10,Tryd.ntmps10
  go_wp2
  go_ret
  exact ⟨by first|rfl|(simp [errW_none,errW_some] <;> rfl)|(simp [*,errW_none,errW_some] <;> rfl),by repeat (first|(with_reducible first|exact HB.out|apply qd1|apply qe1|apply qf1)|exact HB.out)⟩
 ·
  rw [if_neg c2] at H
  have c2b0 : decide (65536 < (l0.length : Int)) = false:=decide_eq_false c2
  have c2b1 : decide (65536 < l0.length) = false:=decide_eq_false (by omega)
  clear c2
  replace H:=Option.bind_eq_some_iff.mp H
  obtain ⟨t101,A30,H⟩:=H
  replace H : (some t101) = some r:=H
  have A3:=qg1 A30
  clear A30
  obtain rfl:=Option.some.inj H
  have hcv4:=Kd.C_string (P:=Tryd.prog) (A:=A0) (c:=c0) Tryd.underlying22 Tryd.underlying5 Tryd.underlying9 HR0.out
  go_enter Tryd.func10,Tryd.ntmps10
  go_wp2_with (first|((with_reducible refine gate_callee (f:=50) rfl ?_);refine goesL_ (some 8) rfl rfl Tryd.func50 (by kernel_rfl) rfl #[.string (strOfNums l0)] rfl (by (try simp only [List.map_toArray,List.map_cons,List.map_nil]);first|done|rfl|(simp only [List.length_drop,List.length_take];rfl)) ?_;(with_reducible refine (impl_hash.calls (strOfNums l0) t101 _ ?side1 A3.out).mono ?_);(case side1 => exact Go.Proofs.YtmkaknegjahjaaaDoor.Sha.glob_below hG_ (by repeat (first|(with_reducible first|exact HB.out|apply qd1|apply qe1|apply qf1)|exact HB.out)));rintro e w5 ⟨rfl,hb⟩;refine ⟨_,rfl,?_⟩;have n0_:=qg1 (below_step (by repeat (first|(with_reducible first|exact HB.out|apply qd1|apply qe1|apply qf1)|exact HB.out)) hb);clear HB;have HB:=n0_;clear n0_;(try clear hb);(try clear hb2);(try clear hk);(try clear hi)))
  go_ret
  exact ⟨by first|rfl|(simp [errW_none,errW_some] <;> rfl)|(simp [*,errW_none,errW_some] <;> rfl),by repeat (first|(with_reducible first|exact HB.out|apply qd1|apply qe1|apply qf1)|exact HB.out)⟩

/-! ### spec_SeedOf: function 17, given -/
def spec_SeedOf.f (l0 : List Int) : Option ByteArray:=if l0.length ≤ 1099511627776 ∧ (∀ x ∈ l0,0 ≤ x ∧ x ≤ 255) then some (Go.Proofs.YtmkaknegjahjaaaDoor.Src.seedF l0) else none
theorem spec_SeedOf.calls (A0 : Option Addr) (c0 : Nat) (l0 : List Int) (r : ByteArray) (w : World) (hr0 : Kd.C (Kd.int .u8) w A0 l0.length l0) (hc0 : l0.length ≤ c0) (h : spec_SeedOf.f l0 = some r) :
  Calls Tryd.prog 17 #[.slice A0 l0.length c0] w fun e w' => e = .returned (.string r) ∧ Below w.heap.size w w':=by
 have hs : l0.length ≤ 1099511627776 ∧ (∀ x ∈ l0,0 ≤ x ∧ x ≤ 255):=by
  by_cases hl : l0.length ≤ 1099511627776 ∧ (∀ x ∈ l0,0 ≤ x ∧ x ≤ 255)
  ·
   exact hl
  ·
   rw [spec_SeedOf.f,if_neg hl] at h;cases h
 rw [spec_SeedOf.f,if_pos hs] at h
 injection h with h
 subst h
 refine Go.Proofs.YtmkaknegjahjaaaDoor.Src.seed_calls w A0 c0 l0 hr0 (fun i => ?_) (by omega)
 unfold rd
 rw [List.getD_eq_getElem?_getD]
 by_cases hi : i.toNat < l0.length
 ·
  rw [List.getElem?_eq_getElem hi,Option.getD_some]
  exact hs.2 _ (List.getElem_mem hi)
 ·
  rw [List.getElem?_eq_none (by omega)]
  exact ⟨Int.le_refl 0,show (0 : Int) ≤ 255 by decide⟩


/-! ### laws_at: function 18 -/
def laws_at.f (l0 : List Int) (a1 : Int) (a2 : Int) : Option (Int):=if a2 ≤ 1 then (some 0) else (if (l0.length : Int) = 0 then (if a2 = 0 then (none) else (some (Int.tmod (wrap64 (a1 * 7)) a2))) else (if 0 ≤ (Int.tmod a1 (l0.length : Int)) then (if (Int.tmod a1 (l0.length : Int)) < (l0.length : Int) then (if 0 ≤ (Int.tmod (wrap64 (a1 + 1)) (l0.length : Int)) then (if (Int.tmod (wrap64 (a1 + 1)) (l0.length : Int)) < (l0.length : Int) then (if a2 = 0 then (none) else (some (Int.tmod (wrap64 ((wrap64 ((wrap64 ((wrap64 (rd l0 (Int.tmod a1 (l0.length : Int)))) * 31)) + (wrap64 (rd l0 (Int.tmod (wrap64 (a1 + 1)) (l0.length : Int)))))) + (wrap64 (Int.tdiv a1 (l0.length : Int))))) a2))) else (none)) else (none)) else (none)) else (none)))
set_option maxHeartbeats 8000000 in
set_option maxRecDepth 100000 in
theorem laws_at.calls (A0 : Option Addr) (c0 : Nat) (l0 : List Int) (a1 : Int) (a2 : Int) (r : Int) (w : World) (hr0 : Kd.C (Kd.int .u8) w A0 l0.length l0) (hc0 : l0.length ≤ c0) (h : laws_at.f l0 a1 a2 = some r) :
  Calls Tryd.prog 18 #[.slice A0 l0.length c0,.int .i64 a1,.int .i64 a2] w fun e w' => e = .returned (.int .i64 r) ∧ Drawn0 w w':=by
 have HR0:=qg1 hr0
 have HC0:=qg1 hc0
 clear hr0 hc0
 have H : (if a2 ≤ 1 then (some 0) else (if (l0.length : Int) = 0 then (if a2 = 0 then (none) else (some (Int.tmod (wrap64 (a1 * 7)) a2))) else (if 0 ≤ (Int.tmod a1 (l0.length : Int)) then (if (Int.tmod a1 (l0.length : Int)) < (l0.length : Int) then (if 0 ≤ (Int.tmod (wrap64 (a1 + 1)) (l0.length : Int)) then (if (Int.tmod (wrap64 (a1 + 1)) (l0.length : Int)) < (l0.length : Int) then (if a2 = 0 then (none) else (some (Int.tmod (wrap64 ((wrap64 ((wrap64 ((wrap64 (rd l0 (Int.tmod a1 (l0.length : Int)))) * 31)) + (wrap64 (rd l0 (Int.tmod (wrap64 (a1 + 1)) (l0.length : Int)))))) + (wrap64 (Int.tdiv a1 (l0.length : Int))))) a2))) else (none)) else (none)) else (none)) else (none)))) = some r:=h
 clear h
 by_cases c4 : a2 ≤ 1
 ·
  rw [if_pos c4] at H
  have c4b0 : decide (a2 ≤ 1) = true:=decide_eq_true c4
  clear c4
  obtain rfl:=Option.some.inj H
  go_enter Tryd.func18,Tryd.ntmps18
  go_wp2
  repeat (go_quiet (fail);try go_wp2)
  go_ret
  exact ⟨by first|rfl|(simp;done)|(simp [*];done),by repeat (first|exact Drawn0.refl _|apply Drawn0.step)⟩
 ·
  rw [if_neg c4] at H
  have c4b0 : decide (a2 ≤ 1) = false:=decide_eq_false c4
  clear c4
  by_cases c5 : (l0.length : Int) = 0
  ·
   rw [if_pos c5] at H
   have c5b0 : ((l0.length : Int) == 0) = true:=beq_iff_eq.mpr c5
   have c5b1 : ((l0.length : Int) != 0) = false:=bne_eq_false_iff_eq.mpr c5
   clear c5
   by_cases c6 : a2 = 0
   ·
    rw [if_pos c6] at H
    exact absurd H (by simp)
   ·
    rw [if_neg c6] at H
    have c6b0 : (a2 == 0) = false:=beq_eq_false_iff_ne.mpr c6
    have c6b1 : (a2 != 0) = true:=bne_iff_ne.mpr c6
    obtain rfl:=Option.some.inj H
    go_enter Tryd.func18,Tryd.ntmps18
    go_wp2
    repeat (go_quiet (fail);try go_wp2)
    go_ret
    exact ⟨by first|rfl|(simp;done)|(simp [*];done),by repeat (first|exact Drawn0.refl _|apply Drawn0.step)⟩
  ·
   rw [if_neg c5] at H
   have c5b0 : ((l0.length : Int) == 0) = false:=beq_eq_false_iff_ne.mpr c5
   have c5b1 : ((l0.length : Int) != 0) = true:=bne_iff_ne.mpr c5
   have c5b2 : ¬ (l0 = []):=fun h_ => c5 (by rw [h_];rfl)
   obtain ⟨ji7,hji7⟩ : ∃ j_ : Int,(Int.tmod a1 (l0.length : Int)) = j_:=⟨_,rfl⟩
   replace H : (if 0 ≤ (ji7) then (if (ji7) < (l0.length : Int) then (if 0 ≤ (Int.tmod (wrap64 (a1 + 1)) (l0.length : Int)) then (if (Int.tmod (wrap64 (a1 + 1)) (l0.length : Int)) < (l0.length : Int) then (if a2 = 0 then (none) else (some (Int.tmod (wrap64 ((wrap64 ((wrap64 ((wrap64 (rd l0 (ji7))) * 31)) + (wrap64 (rd l0 (Int.tmod (wrap64 (a1 + 1)) (l0.length : Int)))))) + (wrap64 (Int.tdiv a1 (l0.length : Int))))) a2))) else (none)) else (none)) else (none)) else (none)) = some r:=by first|(rw [hji7] at H;exact H)|(simp only [hji7] at H ⊢;exact H)
   by_cases c8 : 0 ≤ (ji7)
   ·
    rw [if_pos c8] at H
    have c8b0 : decide (0 ≤ (ji7)) = true:=decide_eq_true c8
    clear c8
    by_cases c9 : (ji7) < (l0.length : Int)
    ·
     rw [if_pos c9] at H
     have c9b0 : decide ((ji7) < (l0.length : Int)) = true:=decide_eq_true c9
     clear c9
     obtain ⟨ji10,hji10⟩ : ∃ j_ : Int,(Int.tmod (wrap64 (a1 + 1)) (l0.length : Int)) = j_:=⟨_,rfl⟩
     replace H : (if 0 ≤ (ji10) then (if (ji10) < (l0.length : Int) then (if a2 = 0 then (none) else (some (Int.tmod (wrap64 ((wrap64 ((wrap64 ((wrap64 (rd l0 (ji7))) * 31)) + (wrap64 (rd l0 (ji10))))) + (wrap64 (Int.tdiv a1 (l0.length : Int))))) a2))) else (none)) else (none)) = some r:=by first|(rw [hji10] at H;exact H)|(simp only [hji10] at H ⊢;exact H)
     by_cases c11 : 0 ≤ (ji10)
     ·
      rw [if_pos c11] at H
      have c11b0 : decide (0 ≤ (ji10)) = true:=decide_eq_true c11
      clear c11
      by_cases c12 : (ji10) < (l0.length : Int)
      ·
       rw [if_pos c12] at H
       have c12b0 : decide ((ji10) < (l0.length : Int)) = true:=decide_eq_true c12
       clear c12
       by_cases c13 : a2 = 0
       ·
        rw [if_pos c13] at H
        exact absurd H (by simp)
       ·
        rw [if_neg c13] at H
        have c13b0 : (a2 == 0) = false:=beq_eq_false_iff_ne.mpr c13
        have c13b1 : (a2 != 0) = true:=bne_iff_ne.mpr c13
        obtain rfl:=Option.some.inj H
        have p102 : 0 ≤ ((ji7) : Int):=of_decide_eq_true (by first|(with_reducible assumption)|assumption)
        have q102 : (ji7) < (l0.length : Int):=of_decide_eq_true (by first|(with_reducible assumption)|assumption)
        obtain ⟨ad102,e102,hx102_0⟩:=Kd.at_int HR0.out (ji7) p102 q102
        cases e102
        replace p102:=eq_true p102
        replace q102:=eq_true q102
        have p103 : 0 ≤ ((ji10) : Int):=of_decide_eq_true (by first|(with_reducible assumption)|assumption)
        have q103 : (ji10) < (l0.length : Int):=of_decide_eq_true (by first|(with_reducible assumption)|assumption)
        obtain ⟨ad103,e103,hx103_0⟩:=Kd.at_int HR0.out (ji10) p103 q103
        obtain rfl : ad102 = ad103:=(by injection e103)
        replace p103:=eq_true p103
        replace q103:=eq_true q103
        go_enter Tryd.func18,Tryd.ntmps18
        go_wp2
        repeat (go_quiet (fail);try go_wp2)
        go_ret
        exact ⟨by first|rfl|(simp;done)|(simp only [← hji7,← hji10] <;> (first|rfl|simp))|(simp [*];done),by repeat (first|exact Drawn0.refl _|apply Drawn0.step)⟩
      ·
       rw [if_neg c12] at H
       exact absurd H (by simp)
     ·
      rw [if_neg c11] at H
      exact absurd H (by simp)
    ·
     rw [if_neg c9] at H
     exact absurd H (by simp)
   ·
    rw [if_neg c8] at H
    exact absurd H (by simp)

/-! ### spec_l01In: function 60 -/
def spec_l01In.f (a0 : Int) (a1 : Int) (a2 : Int) : Option (Bool):=if a0 ≥ a1 then (some (decide (a0 ≤ a2))) else (some false)
set_option maxHeartbeats 8000000 in
set_option maxRecDepth 100000 in
theorem spec_l01In.calls (a0 : Int) (a1 : Int) (a2 : Int) (r : Bool) (w : World) (h : spec_l01In.f a0 a1 a2 = some r) :
  Calls Tryd.prog 60 #[.int .i64 a0,.int .i64 a1,.int .i64 a2] w fun e w' => e = .returned (.bool r) ∧ Drawn0 w w':=by
 have H : (if a0 ≥ a1 then (some (decide (a0 ≤ a2))) else (some false)) = some r:=h
 clear h
 by_cases c4 : a0 ≥ a1
 ·
  rw [if_pos c4] at H
  have c4b0 : decide (a1 ≤ a0) = true:=decide_eq_true c4
  clear c4
  obtain rfl:=Option.some.inj H
  go_enter Tryd.func60,Tryd.ntmps60
  go_wp2
  go_ret
  exact ⟨by first|rfl|(simp;done)|(simp [*];done),by repeat (first|exact Drawn0.refl _|apply Drawn0.step)⟩
 ·
  rw [if_neg c4] at H
  have c4b0 : decide (a1 ≤ a0) = false:=decide_eq_false c4
  clear c4
  obtain rfl:=Option.some.inj H
  go_enter Tryd.func60,Tryd.ntmps60
  go_wp2
  go_ret
  exact ⟨by first|rfl|(simp;done)|(simp [*];done),by repeat (first|exact Drawn0.refl _|apply Drawn0.step)⟩

/-! ### spec_l01Hash: function 54, given -/
def spec_l01Hash.f (l0 : List Int) : Option ByteArray:=if l0.length ≤ 1099511627776 then some (Go.Proofs.YtmkaknegjahjaaaDoor.Sha.shaB l0) else none
theorem spec_l01Hash.calls (A0 : Option Addr) (c0 : Nat) (l0 : List Int) (r : ByteArray) (w : World) (hr0 : Kd.C (Kd.int .u8) w A0 l0.length l0) (hc0 : l0.length ≤ c0) (h : spec_l01Hash.f l0 = some r) :
  Calls Tryd.prog 54 #[.slice A0 l0.length c0] w fun e w' => e = .returned (.string r) ∧ Below w.heap.size w w':=by
 have hs : l0.length ≤ 1099511627776:=by
  rcases Nat.lt_or_ge 1099511627776 l0.length with hl|hl
  ·
   rw [spec_l01Hash.f,if_neg (by omega)] at h;cases h
  ·
   exact hl
 rw [spec_l01Hash.f,if_pos hs] at h
 injection h with h
 subst h
 exact Go.Proofs.YtmkaknegjahjaaaDoor.Sha.hashS_calls A0 c0 l0 w hr0 hs


/-! ### spec_l03Secret: function 108 -/
def spec_l03Secret.f (a0 : ByteArray) (a1 : Int) (a2 : Int) (a3 : Int) : Option (ByteArray):=if 6 + a0.size ≤ 9223372036854775807 then ((some (([(a1) % 256,(a2) % 256,(a3) % 256] : List Int) : List Int)).bind fun y104 => (if ((⟨#[115,101,99,114,101,116]⟩ : ByteArray) ++ a0).size + (strOfNums y104).size ≤ 9223372036854775807 then (if (((⟨#[115,101,99,114,101,116]⟩ : ByteArray) ++ a0) ++ (strOfNums y104)).size ≤ 9223372036854775807 then ((spec_l01Hash.f (bytesOf (((⟨#[115,101,99,114,101,116]⟩ : ByteArray) ++ a0) ++ (strOfNums y104)))).bind fun t110 => (some t110)) else (none)) else (none))) else (none)
set_option maxHeartbeats 8000000 in
set_option maxRecDepth 100000 in
theorem spec_l03Secret.calls (a0 : ByteArray) (a1 : Int) (a2 : Int) (a3 : Int) (r : ByteArray) (w : World) (h : spec_l03Secret.f a0 a1 a2 a3 = some r) :
  Calls Tryd.prog 108 #[.string a0,.int .i64 a1,.int .i64 a2,.int .i64 a3] w fun e w' => e = .returned (.string r) ∧ Below w.heap.size w w':=by
 have HB:=qg1 (Below.refl w.heap.size w)
 have H : (if 6 + a0.size ≤ 9223372036854775807 then ((some (([(a1) % 256,(a2) % 256,(a3) % 256] : List Int) : List Int)).bind fun y104 => (if ((⟨#[115,101,99,114,101,116]⟩ : ByteArray) ++ a0).size + (strOfNums y104).size ≤ 9223372036854775807 then (if (((⟨#[115,101,99,114,101,116]⟩ : ByteArray) ++ a0) ++ (strOfNums y104)).size ≤ 9223372036854775807 then ((spec_l01Hash.f (bytesOf (((⟨#[115,101,99,114,101,116]⟩ : ByteArray) ++ a0) ++ (strOfNums y104)))).bind fun t110 => (some t110)) else (none)) else (none))) else (none)) = some r:=h
 clear h
 by_cases c5 : 6 + a0.size ≤ 9223372036854775807
 ·
  rw [if_pos c5] at H
  have c5b0:=eq_true c5
  have c5b1 : decide (6 + a0.size ≤ 9223372036854775807) = true:=decide_eq_true c5
  try have c5b2 : (9223372036854775807 < 6 + a0.size) = False:=eq_false (Nat.not_lt.2 c5)
  obtain ⟨y104,hy104⟩ : ∃ y_ : List Int,y_ = (([(a1) % 256,(a2) % 256,(a3) % 256] : List Int)):=⟨_,rfl⟩
  replace H : (if ((⟨#[115,101,99,114,101,116]⟩ : ByteArray) ++ a0).size + (strOfNums y104).size ≤ 9223372036854775807 then (if (((⟨#[115,101,99,114,101,116]⟩ : ByteArray) ++ a0) ++ (strOfNums y104)).size ≤ 9223372036854775807 then ((spec_l01Hash.f (bytesOf (((⟨#[115,101,99,114,101,116]⟩ : ByteArray) ++ a0) ++ (strOfNums y104)))).bind fun t110 => (some t110)) else (none)) else (none)) = some r:=by first|(rw [hy104];with_reducible exact H)|(have H2_:=(Option.bind_some _ _).symm.trans H;rw [hy104];with_reducible exact H2_)|(have H2_:=(Option.bind_some _ _).symm.trans H;with_reducible exact H2_)|with_reducible exact H|(rw [hy104];exact H)|exact H
  have Ny104:=qg1 hy104
  clear hy104
  by_cases c6 : ((⟨#[115,101,99,114,101,116]⟩ : ByteArray) ++ a0).size + (strOfNums y104).size ≤ 9223372036854775807
  ·
   rw [if_pos c6] at H
   have c6b0:=eq_true c6
   have c6b1 : decide (((⟨#[115,101,99,114,101,116]⟩ : ByteArray) ++ a0).size + (strOfNums y104).size ≤ 9223372036854775807) = true:=decide_eq_true c6
   try have c6b2 : (9223372036854775807 < ((⟨#[115,101,99,114,101,116]⟩ : ByteArray) ++ a0).size + (strOfNums y104).size) = False:=eq_false (Nat.not_lt.2 c6)
   (try (have c6b3:=c6;simp only [ByteArray.size_append] at c6b3;have c6b4:=eq_false (Nat.not_lt.2 c6b3)))
   (try (have c6b5 : (9223372036854775807 < 6 + a0.size + (strOfNums y104).size) = False:=eq_false (by have h_:=c6;simp only [ByteArray.size_append] at h_;have hl0_ : ((⟨#[115,101,99,114,101,116]⟩ : ByteArray)).size = 6:=rfl;omega)))
   by_cases c7 : (((⟨#[115,101,99,114,101,116]⟩ : ByteArray) ++ a0) ++ (strOfNums y104)).size ≤ 9223372036854775807
   ·
    rw [if_pos c7] at H
    have c7b0:=eq_true c7
    have c7b1 : decide ((((⟨#[115,101,99,114,101,116]⟩ : ByteArray) ++ a0) ++ (strOfNums y104)).size ≤ 9223372036854775807) = true:=decide_eq_true c7
    try have c7b2 : (9223372036854775807 < (((⟨#[115,101,99,114,101,116]⟩ : ByteArray) ++ a0) ++ (strOfNums y104)).size) = False:=eq_false (Nat.not_lt.2 c7)
    (try (have c7b3:=c7;simp only [ByteArray.size_append] at c7b3;have c7b4:=eq_false (Nat.not_lt.2 c7b3)))
    obtain ⟨y107,hy107⟩ : ∃ y_ : List Int,y_ = (bytesOf (((⟨#[115,101,99,114,101,116]⟩ : ByteArray) ++ a0) ++ (strOfNums y104))):=⟨_,rfl⟩
    replace H : ((spec_l01Hash.f y107).bind fun t110 => (some t110)) = some r:=by first|(rw [hy107];with_reducible exact H)|(have H2_:=(Option.bind_some _ _).symm.trans H;rw [hy107];with_reducible exact H2_)|(have H2_:=(Option.bind_some _ _).symm.trans H;with_reducible exact H2_)|with_reducible exact H|(rw [hy107];exact H)|exact H
    have Ny107:=qg1 hy107
    clear hy107
    replace H:=Option.bind_eq_some_iff.mp H
    obtain ⟨t110,A80,H⟩:=H
    replace H : (some t110) = some r:=H
    have A8:=qg1 A80
    clear A80
    obtain rfl:=Option.some.inj H
    go_enter Tryd.func108,Tryd.ntmps108
    go_wp2_with (first|((with_reducible refine gate_dst (N:=17) rfl ?_);refine Kd.R_lit (Kd.int .u8) _ 5 ?hg (N:=17) ?hd (xs:=([(a1) % 256,(a2) % 256,(a3) % 256] : List Int)) (inner:=[.int .u8 ((a1) % 256),.int .u8 ((a2) % 256),.int .u8 ((a3) % 256)]) (ok:=fun _ => True) (okp:=fun _ => True) ?hr ?hp (fun _ hk => hk) trivial (Below.refl _ _) (Nat.le_refl _) (by simp) ?_;(case hd => rfl);(case hg => rfl);(case hr => first|(go_simp;done)|(go_simp;rfl));(case hp => exact (Reps.one (show Kd.M (Kd.int .u8) _ _ _ ((a1) % 256) [.int .u8 ((a1) % 256)] from rfl) (Reps.one (show Kd.M (Kd.int .u8) _ _ _ ((a2) % 256) [.int .u8 ((a2) % 256)] from rfl) (Reps.one (show Kd.M (Kd.int .u8) _ _ _ ((a3) % 256) [.int .u8 ((a3) % 256)] from rfl) (Reps.none _ _)))));intro v105 w9 ho10 hb hg_ hnew_;clear hg_ hnew_;(first|rw [← Ny104.out] at ho10|(simp only [Int.reduceToNat] at ho10;rw [← Ny104.out] at ho10));have n0_:=qg1 (Kd.R_lower ho10 (below_size (by repeat (first|(with_reducible first|exact HB.out|apply qd1|apply qe1|apply qf1)|exact HB.out))));have n1_:=qg1 (below_step (by repeat (first|(with_reducible first|exact HB.out|apply qd1|apply qe1|apply qf1)|exact HB.out)) hb);clear HB;have HO106:=n0_;have HB:=n1_;clear n0_ n1_;clear hb ho10;have hcv11:=own_string (P:=Tryd.prog) Tryd.underlying22 Tryd.underlying5 Tryd.underlying9 (Kd.own_of_R HO106.out))|((with_reducible refine gate_dst (N:=20) rfl ?_);refine R_bytes _ 5 rfl (N:=20) rfl 9 22 _ rfl (((⟨#[115,101,99,114,101,116]⟩ : ByteArray) ++ a0) ++ (strOfNums y104)) rfl Tryd.underlying9 Tryd.underlying22 Tryd.underlying5 (ok:=fun _ => True) trivial (of_decide_eq_true (by first|(with_reducible assumption)|assumption)) (Below.refl _ _) (Nat.le_refl _) ?_;intro v108 w12 ho13 hb hg_ hnew_;clear hg_ hnew_;(first|rw [← Ny107.out] at ho13|(simp only [Int.reduceToNat] at ho13;rw [← Ny107.out] at ho13));have n0_:=qg1 (Kd.R_elder' (by (with_reducible repeat (first|apply qa1|apply qb1|apply qc1));exact HO106.out) (Kd.R_base ho13) hb);have n1_:=qg1 (Kd.R_lower (Kd.R_new' ho13 (Kd.R_lt (by (with_reducible repeat (first|apply qa1|apply qb1|apply qc1));exact HO106.out))) (below_size (by repeat (first|(with_reducible first|exact HB.out|apply qd1|apply qe1|apply qf1)|exact HB.out))));have n2_:=qg1 (below_step (by repeat (first|(with_reducible first|exact HB.out|apply qd1|apply qe1|apply qf1)|exact HB.out)) hb);clear HO106;clear HB;have HO106:=n0_;have HO109:=n1_;have HB:=n2_;clear n0_ n1_ n2_;clear hb ho13;obtain ⟨Ao14,co14,eo14⟩:=Kd.R_slice HO109.out;subst eo14)|((with_reducible refine gate_callee (f:=54) rfl ?_);refine goesL_ (some 21) rfl rfl Tryd.func54 (by kernel_rfl) rfl #[.slice Ao14 y107.length co14] rfl (by (try simp only [List.map_toArray,List.map_cons,List.map_nil]);first|done|rfl|(simp only [List.length_drop,List.length_take];rfl)) ?_;(with_reducible refine (spec_l01Hash.calls _ _ y107 t110 _ ?side1 ?side2 A8.out).mono ?_);(case side1 => repeat (first|exact (Kd.R_reads' HO109.out).2.2|(with_reducible refine Kd.C_alloc ?_ _)|(with_reducible refine Kd.C_drewN ?_ _)|(with_reducible refine Kd.C_drew ?_)));(case side2 => exact (Kd.R_reads' HO109.out).2.1);rintro e w15 ⟨rfl,hb⟩;refine ⟨_,rfl,?_⟩;have n0_:=qg1 (Kd.R_below (by (with_reducible repeat (first|apply qa1|apply qb1|apply qc1));exact HO106.out) hb);have n1_:=qg1 (Kd.R_below (by (with_reducible repeat (first|apply qa1|apply qb1|apply qc1));exact HO109.out) hb);have n2_:=qg1 (below_step (by repeat (first|(with_reducible first|exact HB.out|apply qd1|apply qe1|apply qf1)|exact HB.out)) hb);clear HO106;clear HO109;clear HB;have HO106:=n0_;have HO109:=n1_;have HB:=n2_;clear n0_ n1_ n2_;(try clear hb);(try clear hb2);(try clear hk);(try clear hi)))
    go_ret
    exact ⟨by first|rfl|(simp [errW_none,errW_some] <;> rfl)|(simp [*,errW_none,errW_some] <;> rfl),by repeat (first|(with_reducible first|exact HB.out|apply qd1|apply qe1|apply qf1)|exact HB.out)⟩
   ·
    rw [if_neg c7] at H
    exact absurd H (by simp)
  ·
   rw [if_neg c6] at H
   exact absurd H (by simp)
 ·
  rw [if_neg c5] at H
  exact absurd H (by simp)

/-! ### spec_l03Key: function 66 -/
mutual
def spec_l03Key.l0 : Nat → ByteArray → Int → List Int → Int → Option (ByteArray)
 | 0,_,_,_,_ => none
 | k + 1,x0,x1,x5,x6 => if x6 < 32 then (spec_l03Key.l1 k x0 x1 x5 x6 0) else ((spec_l01Hash.f x5).bind fun t114 => (some t114))
def spec_l03Key.l1 : Nat → ByteArray → Int → List Int → Int → Int → Option (ByteArray)
 | 0,_,_,_,_,_ => none
 | k + 1,x0,x1,x5,x6,x7 => if x7 < 2 then ((spec_l03Secret.f x0 x1 x6 x7).bind fun t115 => (if t115.size ≤ 9223372036854775807 then ((spec_l01Hash.f (bytesOf t115)).bind fun t119 => (if x5.length + t119.size < 140737488355328 then (spec_l03Key.l1 k x0 x1 (x5 ++ bytesOf t119) x6 (wrap64 (x7 + 1))) else (none))) else (none))) else (spec_l03Key.l0 k x0 x1 x5 (wrap64 (x6 + 1)))
end
def spec_l03Key.f (k : Nat) (a0 : ByteArray) (a1 : Int) : Option (ByteArray):=spec_l03Key.l0 k a0 a1 (([107,101,121] : List Int)) 0
theorem spec_l03Key.mono_l : ∀ k,(∀ y0 y1 y2 y3,LeO (spec_l03Key.l0 k y0 y1 y2 y3) (spec_l03Key.l0 (k + 1) y0 y1 y2 y3)) ∧ (∀ y0 y1 y2 y3 y4,LeO (spec_l03Key.l1 k y0 y1 y2 y3 y4) (spec_l03Key.l1 (k + 1) y0 y1 y2 y3 y4))
 | 0 => ⟨fun _ _ _ _ r h => by simp [spec_l03Key.l0] at h,fun _ _ _ _ _ r h => by simp [spec_l03Key.l1] at h⟩
 | k + 1 => by
  obtain ⟨ih0,ih1⟩:=spec_l03Key.mono_l k
  refine ⟨?_,?_⟩
  ·
   intro y0 y1 y2 y3
   unfold spec_l03Key.l0
   repeat' first
   | (with_reducible exact ih0 _ _ _ _)
   | (with_reducible exact ih1 _ _ _ _ _)
   | (with_reducible exact LeO.refl _)
   | (with_reducible exact LeO.none _)
   | (with_reducible refine LeO.ite ?_ ?_)
   | (with_reducible refine LeO.bind ?_ (fun _ => ?_))
   | exact ih0 _ _ _ _
   | exact ih1 _ _ _ _ _
   | exact LeO.none _
   | refine LeO.ite ?_ ?_
   | refine LeO.bind ?_ (fun _ => ?_)
  ·
   intro y0 y1 y2 y3 y4
   unfold spec_l03Key.l1
   repeat' first
   | (with_reducible exact ih0 _ _ _ _)
   | (with_reducible exact ih1 _ _ _ _ _)
   | (with_reducible exact LeO.refl _)
   | (with_reducible exact LeO.none _)
   | (with_reducible refine LeO.ite ?_ ?_)
   | (with_reducible refine LeO.bind ?_ (fun _ => ?_))
   | exact ih0 _ _ _ _
   | exact ih1 _ _ _ _ _
   | exact LeO.none _
   | refine LeO.ite ?_ ?_
   | refine LeO.bind ?_ (fun _ => ?_)
theorem spec_l03Key.mono : ∀ a0 a1 k,LeO (spec_l03Key.f k a0 a1) (spec_l03Key.f (k + 1) a0 a1):=by
 intro a0 a1 k
 obtain ⟨ih0,ih1⟩:=spec_l03Key.mono_l k
 unfold spec_l03Key.f
 repeat' first
   | (with_reducible exact ih0 _ _ _ _)
   | (with_reducible exact ih1 _ _ _ _ _)
   | (with_reducible exact LeO.refl _)
   | (with_reducible exact LeO.none _)
   | (with_reducible refine LeO.ite ?_ ?_)
   | (with_reducible refine LeO.bind ?_ (fun _ => ?_))
   | exact ih0 _ _ _ _
   | exact ih1 _ _ _ _ _
   | exact LeO.none _
   | refine LeO.ite ?_ ?_
   | refine LeO.bind ?_ (fun _ => ?_)
set_option maxHeartbeats 8000000 in
set_option maxRecDepth 100000 in
theorem spec_l03Key.calls (k : Nat) (a0 : ByteArray) (a1 : Int) (r : ByteArray) (w : World) (h : spec_l03Key.f k a0 a1 = some r) :
  Calls Tryd.prog 66 #[.string a0,.int .i64 a1] w fun e w' => e = .returned (.string r) ∧ Below w.heap.size w w':=by
 have HB:=qg1 (Below.refl w.heap.size w)
 have H : (spec_l03Key.l0 k a0 a1 (([107,101,121] : List Int)) 0) = some r:=h
 clear h
 obtain ⟨y111,hy111⟩ : ∃ y_ : List Int,y_ = (([107,101,121] : List Int)):=⟨_,rfl⟩
 replace H : (spec_l03Key.l0 k a0 a1 y111 0) = some r:=by first|(rw [hy111];with_reducible exact H)|(have H2_:=(Option.bind_some _ _).symm.trans H;rw [hy111];with_reducible exact H2_)|(have H2_:=(Option.bind_some _ _).symm.trans H;with_reducible exact H2_)|with_reducible exact H|(rw [hy111];exact H)|exact H
 have Ny111:=qg1 hy111
 clear hy111
 have H':=qg1 H
 clear H
 go_enter Tryd.func66,Tryd.ntmps66
 go_wp2_with (first|((with_reducible refine gate_dst (N:=9) rfl ?_);refine R_litbytes _ 5 rfl (N:=9) rfl 22 _ rfl #[.int .u8 107,.int .u8 101,.int .u8 121] [107,101,121] rfl rfl Tryd.underlying22 Tryd.underlying5 (ok:=fun _ => True) (by decide) trivial (Below.refl _ _) (Nat.le_refl _) ?_;intro v112 w3 ho4 hb hg_ hnew_;clear hg_ hnew_;(first|rw [← Ny111.out] at ho4|(simp only [Int.reduceToNat] at ho4;rw [← Ny111.out] at ho4));have n0_:=qg1 (Kd.R_lower ho4 (below_size (by repeat (first|(with_reducible first|exact HB.out|apply qd1|apply qe1|apply qf1)|exact HB.out))));have n1_:=qg1 (below_step (by repeat (first|(with_reducible first|exact HB.out|apply qd1|apply qe1|apply qf1)|exact HB.out)) hb);clear HB;have HO113:=n0_;have HB:=n1_;clear n0_ n1_;clear hb ho4))
 go_loopg [5,6] k (fun kq v5 v6 w' => ∃ (x5_1 : List Int) (x6_1 : Int),v6 = .int .i64 x6_1 ∧ Aside0 (spec_l03Key.l0 kq a0 a1 x5_1 x6_1 = some r) ∧ Aside0 (kq ≤ k) ∧ Aside0 (Kd.R (Kd.int .u8) 5 w' w.heap.size (fun _ => True) v5 x5_1) ∧ Aside0 (Below w.heap.size w w'))
 case atStart => exact ⟨(y111),(0),(by first|rfl|(simp;done)|(simp [*];done)),H',⟨Nat.le_refl _⟩,⟨by (with_reducible repeat (first|apply qa1|apply qb1|apply qc1));exact HO113.out⟩,⟨by repeat (first|(with_reducible first|exact HB.out|apply qd1|apply qe1|apply qf1)|exact HB.out)⟩⟩
 case round =>
  clear H'
  try clear p2
  obtain ⟨x5_1,x6_1,rfl,HA,HK1,HO_5,HB⟩:=hrel
  cases gk with
  | zero => exact absurd HA.out (by simp [spec_l03Key.l0])
  | succ k1 =>
   have H:=HA.out
   clear HA
   simp only [spec_l03Key.l0] at H
   by_cases c5 : x6_1 < 32
   ·
    rw [if_pos c5] at H
    have c5b0 : decide (x6_1 < 32) = true:=decide_eq_true c5
    clear c5
    have H':=qg1 H
    clear H
    go_wp2
    go_loopg [5,7] k1 (fun kq v5 v7 w' => ∃ (x5_2 : List Int) (x7_2 : Int),v7 = .int .i64 x7_2 ∧ Aside0 (spec_l03Key.l1 kq a0 a1 x5_2 x6_1 x7_2 = some r) ∧ Aside0 (kq ≤ k1) ∧ Aside0 (Kd.R (Kd.int .u8) 5 w' w.heap.size (fun _ => True) v5 x5_2) ∧ Aside0 (Below w.heap.size w w'))
    case atStart => exact ⟨(x5_1),(0),(by first|rfl|(simp;done)|(simp [*];done)),H',⟨Nat.le_refl _⟩,⟨by (with_reducible repeat (first|apply qa1|apply qb1|apply qc1));exact HO_5.out⟩,⟨by repeat (first|(with_reducible first|exact HB.out|apply qd1|apply qe1|apply qf1)|exact HB.out)⟩⟩
    case round =>
     clear H'
     try clear p2
     try clear c5
     try clear c5b0
     try clear p2
     obtain ⟨x5_2,x7_2,rfl,HA,HK2,HO_5,HB⟩:=hrel
     cases gk with
     | zero => exact absurd HA.out (by simp [spec_l03Key.l1])
     | succ k2 =>
      have H:=HA.out
      clear HA
      simp only [spec_l03Key.l1] at H
      by_cases c6 : x7_2 < 2
      ·
       rw [if_pos c6] at H
       have c6b0 : decide (x7_2 < 2) = true:=decide_eq_true c6
       clear c6
       replace H:=Option.bind_eq_some_iff.mp H
       obtain ⟨t115,A70,H⟩:=H
       replace H : (if t115.size ≤ 9223372036854775807 then ((spec_l01Hash.f (bytesOf t115)).bind fun t119 => (if x5_2.length + t119.size < 140737488355328 then (spec_l03Key.l1 k2 a0 a1 (x5_2 ++ bytesOf t119) x6_1 (wrap64 (x7_2 + 1))) else (none))) else (none)) = some r:=H
       have A7:=qg1 A70
       clear A70
       by_cases c8 : t115.size ≤ 9223372036854775807
       ·
        rw [if_pos c8] at H
        have c8b0:=eq_true c8
        have c8b1 : decide (t115.size ≤ 9223372036854775807) = true:=decide_eq_true c8
        try have c8b2 : (9223372036854775807 < t115.size) = False:=eq_false (Nat.not_lt.2 c8)
        clear c8
        obtain ⟨y116,hy116⟩ : ∃ y_ : List Int,y_ = (bytesOf t115):=⟨_,rfl⟩
        replace H : ((spec_l01Hash.f y116).bind fun t119 => (if x5_2.length + t119.size < 140737488355328 then (spec_l03Key.l1 k2 a0 a1 (x5_2 ++ bytesOf t119) x6_1 (wrap64 (x7_2 + 1))) else (none))) = some r:=by first|(rw [hy116];with_reducible exact H)|(have H2_:=(Option.bind_some _ _).symm.trans H;rw [hy116];with_reducible exact H2_)|(have H2_:=(Option.bind_some _ _).symm.trans H;with_reducible exact H2_)|with_reducible exact H|(rw [hy116];exact H)|exact H
        have Ny116:=qg1 hy116
        clear hy116
        replace H:=Option.bind_eq_some_iff.mp H
        obtain ⟨t119,A90,H⟩:=H
        replace H : (if x5_2.length + t119.size < 140737488355328 then (spec_l03Key.l1 k2 a0 a1 (x5_2 ++ bytesOf t119) x6_1 (wrap64 (x7_2 + 1))) else (none)) = some r:=H
        have A9:=qg1 A90
        clear A90
        by_cases c10 : x5_2.length + t119.size < 140737488355328
        ·
         rw [if_pos c10] at H
         have LMc10:=qg1 c10
         clear c10
         obtain ⟨y120,hy120⟩ : ∃ y_ : List Int,y_ = (x5_2 ++ bytesOf t119):=⟨_,rfl⟩
         replace H : (spec_l03Key.l1 k2 a0 a1 y120 x6_1 (wrap64 (x7_2 + 1))) = some r:=by first|(rw [hy120];with_reducible exact H)|(have H2_:=(Option.bind_some _ _).symm.trans H;rw [hy120];with_reducible exact H2_)|(have H2_:=(Option.bind_some _ _).symm.trans H;with_reducible exact H2_)|with_reducible exact H|(rw [hy120];exact H)|exact H
         have Ny120:=qg1 hy120
         clear hy120
         have H':=qg1 H
         clear H
         go_wp2_with (first|((with_reducible refine gate_callee (f:=108) rfl ?_);refine goesL_ (some 23) rfl rfl Tryd.func108 (by kernel_rfl) rfl #[.string a0,.int .i64 a1,.int .i64 x6_1,.int .i64 x7_2] rfl (by (try simp only [List.map_toArray,List.map_cons,List.map_nil]);first|done|rfl|(simp only [List.length_drop,List.length_take];rfl)) ?_;(with_reducible refine (spec_l03Secret.calls a0 a1 x6_1 x7_2 t115 _ A7.out).mono ?_);rintro e w11 ⟨rfl,hb⟩;refine ⟨_,rfl,?_⟩;have n0_:=qg1 (Kd.R_below (by (with_reducible repeat (first|apply qa1|apply qb1|apply qc1));exact HO_5.out) hb);have n1_:=qg1 (below_step (by repeat (first|(with_reducible first|exact HB.out|apply qd1|apply qe1|apply qf1)|exact HB.out)) hb);clear HO_5;clear HB;have HO_5:=n0_;have HB:=n1_;clear n0_ n1_;(try clear hb);(try clear hb2);(try clear hk);(try clear hi))|((with_reducible refine gate_dst (N:=24) rfl ?_);refine R_bytes _ 5 rfl (N:=24) rfl 9 22 _ rfl t115 rfl Tryd.underlying9 Tryd.underlying22 Tryd.underlying5 (ok:=fun _ => True) trivial (of_decide_eq_true (by first|(with_reducible assumption)|assumption)) (Below.refl _ _) (Nat.le_refl _) ?_;intro v117 w12 ho13 hb hg_ hnew_;clear hg_ hnew_;(first|rw [← Ny116.out] at ho13|(simp only [Int.reduceToNat] at ho13;rw [← Ny116.out] at ho13));have n0_:=qg1 (Kd.R_elder' (by (with_reducible repeat (first|apply qa1|apply qb1|apply qc1));exact HO_5.out) (Kd.R_base ho13) hb);have n1_:=qg1 (Kd.R_lower (Kd.R_new' ho13 (Kd.R_lt (by (with_reducible repeat (first|apply qa1|apply qb1|apply qc1));exact HO_5.out))) (below_size (by repeat (first|(with_reducible first|exact HB.out|apply qd1|apply qe1|apply qf1)|exact HB.out))));have n2_:=qg1 (below_step (by repeat (first|(with_reducible first|exact HB.out|apply qd1|apply qe1|apply qf1)|exact HB.out)) hb);clear HO_5;clear HB;have HO_5:=n0_;have HO118:=n1_;have HB:=n2_;clear n0_ n1_ n2_;clear hb ho13;obtain ⟨Ao14,co14,eo14⟩:=Kd.R_slice HO118.out;subst eo14)|((with_reducible refine gate_callee (f:=54) rfl ?_);refine goesL_ (some 25) rfl rfl Tryd.func54 (by kernel_rfl) rfl #[.slice Ao14 y116.length co14] rfl (by (try simp only [List.map_toArray,List.map_cons,List.map_nil]);first|done|rfl|(simp only [List.length_drop,List.length_take];rfl)) ?_;(with_reducible refine (spec_l01Hash.calls _ _ y116 t119 _ ?side1 ?side2 A9.out).mono ?_);(case side1 => repeat (first|exact (Kd.R_reads' HO118.out).2.2|(with_reducible refine Kd.C_alloc ?_ _)|(with_reducible refine Kd.C_drewN ?_ _)|(with_reducible refine Kd.C_drew ?_)));(case side2 => exact (Kd.R_reads' HO118.out).2.1);rintro e w15 ⟨rfl,hb⟩;refine ⟨_,rfl,?_⟩;have n0_:=qg1 (Kd.R_below (by (with_reducible repeat (first|apply qa1|apply qb1|apply qc1));exact HO_5.out) hb);have n1_:=qg1 (Kd.R_below (by (with_reducible repeat (first|apply qa1|apply qb1|apply qc1));exact HO118.out) hb);have n2_:=qg1 (below_step (by repeat (first|(with_reducible first|exact HB.out|apply qd1|apply qe1|apply qf1)|exact HB.out)) hb);clear HO_5;clear HO118;clear HB;have HO_5:=n0_;have HO118:=n1_;have HB:=n2_;clear n0_ n1_ n2_;(try clear hb);(try clear hb2);(try clear hk);(try clear hi))|(at_builtin;refine R_append_str (w0:=w) w.heap.size rfl (.tmp 18) _ 22 9 5 rfl Tryd.underlying22 Tryd.underlying9 info5 u5 x5_2 t119 (fun k_ => some k_ ≠ (.slice Ao14 y116.length co14 : Value).ownBlock) rfl rfl ?aO ?aF ?aB ?aS ?aL ?_;(case aB => exact (by repeat (first|(with_reducible first|exact HB.out|apply qd1|apply qe1|apply qf1)|exact HB.out)));(case aF => exact (fun k_ hk => Kd.fresh' (Kd.R_lt (by (with_reducible repeat (first|apply qa1|apply qb1|apply qc1));exact HO118.out)) k_ hk));(case aO => exact (by (with_reducible repeat (first|apply qa1|apply qb1|apply qc1));exact Kd.R_mono HO_5.out (fun _ hk => hk.2)));(case aS => exact (below_size (by repeat (first|(with_reducible first|exact HB.out|apply qd1|apply qe1|apply qf1)|exact HB.out))));(case aL => have:=LMc10.out;omega);intro v121 w16 ho hb hg hat;rw [← Ny120.out] at ho;have n0_:=qg1 (Kd.R_after (ok:=(fun _ => True)) (by (with_reducible repeat (first|apply qa1|apply qb1|apply qc1));exact HO118.out) hg hat);have n1_:=qg1 (hb);have n2_:=qg1 (ho);clear HO118;clear HB;clear HO_5;have HO118:=n0_;have HB:=n1_;have HO122:=n2_;clear n0_ n1_ n2_;clear ho hb hg hat))
         go_roundg k2
         case measure => have:=HK1.out;have:=HK2.out;omega
         case rel => exact ⟨(y120),(wrap64 (x7_2 + 1)),(by first|rfl|(simp;done)|(simp [*];done)),H',⟨by have:=HK1.out;have:=HK2.out;omega⟩,⟨by (with_reducible repeat (first|apply qa1|apply qb1|apply qc1));exact Kd.R_mono HO122.out (fun _ hk => trivial)⟩,⟨by repeat (first|(with_reducible first|exact HB.out|apply qd1|apply qe1|apply qf1)|exact HB.out)⟩⟩
        ·
         rw [if_neg c10] at H
         exact absurd H (by simp)
       ·
        rw [if_neg c8] at H
        exact absurd H (by simp)
      ·
       rw [if_neg c6] at H
       have c6b0 : decide (x7_2 < 2) = false:=decide_eq_false c6
       clear c6
       have H':=qg1 H
       clear H
       go_wp2
       go_roundg k2
       case measure => have:=HK1.out;have:=HK2.out;omega
       case rel => exact ⟨(x5_2),(wrap64 (x6_1 + 1)),(by first|rfl|(simp;done)|(simp [*];done)),H',⟨by have:=HK1.out;have:=HK2.out;omega⟩,⟨by (with_reducible repeat (first|apply qa1|apply qb1|apply qc1));exact HO_5.out⟩,⟨by repeat (first|(with_reducible first|exact HB.out|apply qd1|apply qe1|apply qf1)|exact HB.out)⟩⟩
   ·
    rw [if_neg c5] at H
    have c5b0 : decide (x6_1 < 32) = false:=decide_eq_false c5
    clear c5
    replace H:=Option.bind_eq_some_iff.mp H
    obtain ⟨t114,A170,H⟩:=H
    replace H : (some t114) = some r:=H
    have A17:=qg1 A170
    clear A170
    obtain rfl:=Option.some.inj H
    obtain ⟨Ao18,co18,eo18⟩:=Kd.R_slice HO_5.out
    subst eo18
    go_wp2_with (first|((with_reducible refine gate_callee (f:=54) rfl ?_);refine goesL_ (some 28) rfl rfl Tryd.func54 (by kernel_rfl) rfl #[.slice Ao18 x5_1.length co18] rfl (by (try simp only [List.map_toArray,List.map_cons,List.map_nil]);first|done|rfl|(simp only [List.length_drop,List.length_take];rfl)) ?_;(with_reducible refine (spec_l01Hash.calls _ _ x5_1 t114 _ ?side1 ?side2 A17.out).mono ?_);(case side1 => repeat (first|exact (Kd.R_reads' HO_5.out).2.2|(with_reducible refine Kd.C_alloc ?_ _)|(with_reducible refine Kd.C_drewN ?_ _)|(with_reducible refine Kd.C_drew ?_)));(case side2 => exact (Kd.R_reads' HO_5.out).2.1);rintro e w19 ⟨rfl,hb⟩;refine ⟨_,rfl,?_⟩;have n0_:=qg1 (Kd.R_below (by (with_reducible repeat (first|apply qa1|apply qb1|apply qc1));exact HO_5.out) hb);have n1_:=qg1 (below_step (by repeat (first|(with_reducible first|exact HB.out|apply qd1|apply qe1|apply qf1)|exact HB.out)) hb);clear HO_5;clear HB;have HO_5:=n0_;have HB:=n1_;clear n0_ n1_;(try clear hb);(try clear hb2);(try clear hk);(try clear hi)))
    go_ret
    exact ⟨by first|rfl|(simp [errW_none,errW_some] <;> rfl)|(simp [*,errW_none,errW_some] <;> rfl),by repeat (first|(with_reducible first|exact HB.out|apply qd1|apply qe1|apply qf1)|exact HB.out)⟩

/-! ### spec_l03Keys: function 70 -/
def spec_l03Keys.l0 : Nat → ByteArray → List ByteArray → Int → Option (List ByteArray)
 | 0,_,_,_ => none
 | k + 1,x0,x3,x4 => if x4 < 8 then ((spec_l03Key.f k x0 x4).bind fun t126 => (if x3.length < 8796093022208 then (spec_l03Keys.l0 k x0 (x3 ++ [t126]) (wrap64 (x4 + 1))) else (none))) else (some x3)
def spec_l03Keys.f (k : Nat) (a0 : ByteArray) : Option (List ByteArray):=spec_l03Keys.l0 k a0 (([] : List ByteArray)) 0
theorem spec_l03Keys.mono_l : ∀ k,(∀ y0 y1 y2,LeO (spec_l03Keys.l0 k y0 y1 y2) (spec_l03Keys.l0 (k + 1) y0 y1 y2))
 | 0 => fun _ _ _ r h => by simp [spec_l03Keys.l0] at h
 | k + 1 => by
  have ih0:=spec_l03Keys.mono_l k
  ·
   intro y0 y1 y2
   unfold spec_l03Keys.l0
   repeat' first
   | (with_reducible exact ih0 _ _ _)
   | (with_reducible exact spec_l03Key.mono _ _ _)
   | (with_reducible exact LeO.refl _)
   | (with_reducible exact LeO.none _)
   | (with_reducible refine LeO.ite ?_ ?_)
   | (with_reducible refine LeO.bind ?_ (fun _ => ?_))
   | exact ih0 _ _ _
   | exact spec_l03Key.mono _ _ _
   | exact LeO.none _
   | refine LeO.ite ?_ ?_
   | refine LeO.bind ?_ (fun _ => ?_)
theorem spec_l03Keys.mono : ∀ a0 k,LeO (spec_l03Keys.f k a0) (spec_l03Keys.f (k + 1) a0):=by
 intro a0 k
 have ih0:=spec_l03Keys.mono_l k
 unfold spec_l03Keys.f
 repeat' first
   | (with_reducible exact ih0 _ _ _)
   | (with_reducible exact spec_l03Key.mono _ _ _)
   | (with_reducible exact LeO.refl _)
   | (with_reducible exact LeO.none _)
   | (with_reducible refine LeO.ite ?_ ?_)
   | (with_reducible refine LeO.bind ?_ (fun _ => ?_))
   | exact ih0 _ _ _
   | exact spec_l03Key.mono _ _ _
   | exact LeO.none _
   | refine LeO.ite ?_ ?_
   | refine LeO.bind ?_ (fun _ => ?_)
set_option maxHeartbeats 8000000 in
set_option maxRecDepth 100000 in
theorem spec_l03Keys.calls (k : Nat) (a0 : ByteArray) (r : List ByteArray) (w : World) (h : spec_l03Keys.f k a0 = some r) :
  Calls Tryd.prog 70 #[.string a0] w fun e w' => ∃ v0_ : Value,e = .returned (v0_) ∧ Kd.R Kd.string 9 w' w.heap.size (fun _ => True) v0_ r ∧ Below w.heap.size w w':=by
 have HB:=qg1 (Below.refl w.heap.size w)
 have H : (spec_l03Keys.l0 k a0 (([] : List ByteArray)) 0) = some r:=h
 clear h
 obtain ⟨y123,hy123⟩ : ∃ y_ : List ByteArray,y_ = (([] : List ByteArray)):=⟨_,rfl⟩
 replace H : (spec_l03Keys.l0 k a0 y123 0) = some r:=by first|(rw [hy123];with_reducible exact H)|(have H2_:=(Option.bind_some _ _).symm.trans H;rw [hy123];with_reducible exact H2_)|(have H2_:=(Option.bind_some _ _).symm.trans H;with_reducible exact H2_)|with_reducible exact H|(rw [hy123];exact H)|exact H
 have Ny123:=qg1 hy123
 clear hy123
 have H':=qg1 H
 clear H
 go_enter Tryd.func70,Tryd.ntmps70
 go_wp2_with (first|((with_reducible refine gate_dst (N:=5) rfl ?_);refine Kd.R_lit Kd.string _ 9 ?hg (N:=5) ?hd (xs:=([] : List ByteArray)) (inner:=[]) (ok:=fun _ => True) (okp:=fun _ => True) ?hr ?hp (fun _ hk => hk) trivial (Below.refl _ _) (Nat.le_refl _) (by simp) ?_;(case hd => rfl);(case hg => rfl);(case hr => first|(go_simp;done)|(go_simp;rfl));(case hp => exact (Reps.none _ _));intro v124 w2 ho3 hb hg_ hnew_;clear hg_ hnew_;(first|rw [← Ny123.out] at ho3|(simp only [Int.reduceToNat] at ho3;rw [← Ny123.out] at ho3));have n0_:=qg1 (Kd.R_lower ho3 (below_size (by repeat (first|(with_reducible first|exact HB.out|apply qd1|apply qe1|apply qf1)|exact HB.out))));have n1_:=qg1 (below_step (by repeat (first|(with_reducible first|exact HB.out|apply qd1|apply qe1|apply qf1)|exact HB.out)) hb);clear HB;have HO125:=n0_;have HB:=n1_;clear n0_ n1_;clear hb ho3))
 go_loopg [3,4] k (fun kq v3 v4 w' => ∃ (x3_1 : List ByteArray) (x4_1 : Int),v4 = .int .i64 x4_1 ∧ Aside0 (spec_l03Keys.l0 kq a0 x3_1 x4_1 = some r) ∧ Aside0 (kq ≤ k) ∧ Aside0 (Kd.R Kd.string 9 w' w.heap.size (fun _ => True) v3 x3_1) ∧ Aside0 (Below w.heap.size w w'))
 case atStart => exact ⟨(y123),(0),(by first|rfl|(simp;done)|(simp [*];done)),H',⟨Nat.le_refl _⟩,⟨by (with_reducible repeat (first|apply qa1|apply qb1|apply qc1));exact HO125.out⟩,⟨by repeat (first|(with_reducible first|exact HB.out|apply qd1|apply qe1|apply qf1)|exact HB.out)⟩⟩
 case round =>
  clear H'
  try clear p2
  obtain ⟨x3_1,x4_1,rfl,HA,HK1,HO_3,HB⟩:=hrel
  cases gk with
  | zero => exact absurd HA.out (by simp [spec_l03Keys.l0])
  | succ k1 =>
   have H:=HA.out
   clear HA
   simp only [spec_l03Keys.l0] at H
   by_cases c4 : x4_1 < 8
   ·
    rw [if_pos c4] at H
    have c4b0 : decide (x4_1 < 8) = true:=decide_eq_true c4
    clear c4
    replace H:=Option.bind_eq_some_iff.mp H
    obtain ⟨t126,A50,H⟩:=H
    replace H : (if x3_1.length < 8796093022208 then (spec_l03Keys.l0 k1 a0 (x3_1 ++ [t126]) (wrap64 (x4_1 + 1))) else (none)) = some r:=H
    have A5:=qg1 A50
    clear A50
    by_cases c6 : x3_1.length < 8796093022208
    ·
     rw [if_pos c6] at H
     have LMc6:=qg1 c6
     clear c6
     obtain ⟨y127,hy127⟩ : ∃ y_ : List ByteArray,y_ = (x3_1 ++ [t126]):=⟨_,rfl⟩
     replace H : (spec_l03Keys.l0 k1 a0 y127 (wrap64 (x4_1 + 1))) = some r:=by first|(rw [hy127];with_reducible exact H)|(have H2_:=(Option.bind_some _ _).symm.trans H;rw [hy127];with_reducible exact H2_)|(have H2_:=(Option.bind_some _ _).symm.trans H;with_reducible exact H2_)|with_reducible exact H|(rw [hy127];exact H)|exact H
     have Ny127:=qg1 hy127
     clear hy127
     have H':=qg1 H
     clear H
     go_wp2_with (first|((with_reducible refine gate_callee (f:=66) rfl ?_);refine goesL_ (some 13) rfl rfl Tryd.func66 (by kernel_rfl) rfl #[.string a0,.int .i64 x4_1] rfl (by (try simp only [List.map_toArray,List.map_cons,List.map_nil]);first|done|rfl|(simp only [List.length_drop,List.length_take];rfl)) ?_;(with_reducible refine (spec_l03Key.calls k1 a0 x4_1 t126 _ A5.out).mono ?_);rintro e w7 ⟨rfl,hb⟩;refine ⟨_,rfl,?_⟩;have n0_:=qg1 (Kd.R_below (by (with_reducible repeat (first|apply qa1|apply qb1|apply qc1));exact HO_3.out) hb);have n1_:=qg1 (below_step (by repeat (first|(with_reducible first|exact HB.out|apply qd1|apply qe1|apply qf1)|exact HB.out)) hb);clear HO_3;clear HB;have HO_3:=n0_;have HB:=n1_;clear n0_ n1_;(try clear hb);(try clear hb2);(try clear hk);(try clear hi))|((with_reducible refine gate_builtin (b:=.append) (xs:=#[.tmp 10,.tmp 14]) rfl ?_);at_builtin;refine Kd.R_append Kd.string (w0:=w) w.heap.size rfl (.tmp 10) (.tmp 14) 31 9 (.string ⟨#[]⟩) 16 rfl Tryd.underlying31 info9 rfl (by decide) (by omega) u3 x3_1 t126 [.string t126] (fun _ => True) (fun _ => False) rfl rfl ?aP (fun _ hk => hk.elim) ?aF ?aO ?aB ?aS ?aL ?_;(case aP => exact rfl);(case aB => exact (by repeat (first|(with_reducible first|exact HB.out|apply qd1|apply qe1|apply qf1)|exact HB.out)));(case aF => exact (fun _ _ => trivial));(case aO => exact (by (with_reducible repeat (first|apply qa1|apply qb1|apply qc1));exact HO_3.out));(case aS => exact (below_size (by repeat (first|(with_reducible first|exact HB.out|apply qd1|apply qe1|apply qf1)|exact HB.out))));(case aL => have:=LMc6.out;omega);intro v128 w8 ho hb hg hat;rw [← Ny127.out] at ho;have n0_:=qg1 (hb);have n1_:=qg1 (ho);clear HB;clear HO_3;have HB:=n0_;have HO129:=n1_;clear n0_ n1_;clear ho hb hg hat))
     go_roundg k1
     case measure => have:=HK1.out;omega
     case rel => exact ⟨(y127),(wrap64 (x4_1 + 1)),(by first|rfl|(simp;done)|(simp [*];done)),H',⟨by have:=HK1.out;omega⟩,⟨by (with_reducible repeat (first|apply qa1|apply qb1|apply qc1));exact HO129.out⟩,⟨by repeat (first|(with_reducible first|exact HB.out|apply qd1|apply qe1|apply qf1)|exact HB.out)⟩⟩
    ·
     rw [if_neg c6] at H
     exact absurd H (by simp)
   ·
    rw [if_neg c4] at H
    have c4b0 : decide (x4_1 < 8) = false:=decide_eq_false c4
    clear c4
    obtain rfl:=Option.some.inj H
    go_wp2
    go_ret
    exact ⟨_,by first|rfl|(simp [errW_none,errW_some] <;> rfl)|(simp [*,errW_none,errW_some] <;> rfl),by (with_reducible repeat (first|apply qa1|apply qb1|apply qc1));exact HO_3.out,by repeat (first|(with_reducible first|exact HB.out|apply qd1|apply qe1|apply qf1)|exact HB.out)⟩

/-! ### spec_l03Bits: function 76 -/
def spec_l03Bits.l0 : Nat → ByteArray → List Int → Int → Option (ByteArray)
 | 0,_,_,_ => none
 | k + 1,x3,x4,x5 => if x5 < 32 then (if 0 ≤ (wrap64 (Int.tdiv x5 8)) then (if (wrap64 (Int.tdiv x5 8)) < (x3.size : Int) then (if 0 ≤ (IntKind.u64.wrap (wrap64 (7 - (Int.tmod x5 8)))) then (if x4.length < 140737488355328 then (spec_l03Bits.l0 k x3 (x4 ++ [(48 + (Go.bits .and .u8 (shr .u8 (bt x3 (wrap64 (Int.tdiv x5 8))) (IntKind.u64.wrap (wrap64 (7 - (Int.tmod x5 8))))) 1)) % 256]) (wrap64 (x5 + 1))) else (none)) else (none)) else (none)) else (none)) else (some (strOfNums x4))
def spec_l03Bits.f (k : Nat) (a0 : ByteArray) : Option (ByteArray):=if 6 + a0.size ≤ 9223372036854775807 then (if ((⟨#[100,105,103,101,115,116]⟩ : ByteArray) ++ a0).size ≤ 9223372036854775807 then ((spec_l01Hash.f (bytesOf ((⟨#[100,105,103,101,115,116]⟩ : ByteArray) ++ a0))).bind fun t133 => (spec_l03Bits.l0 k t133 (([] : List Int)) 0)) else (none)) else (none)
theorem spec_l03Bits.mono_l : ∀ k,(∀ y0 y1 y2,LeO (spec_l03Bits.l0 k y0 y1 y2) (spec_l03Bits.l0 (k + 1) y0 y1 y2))
 | 0 => fun _ _ _ r h => by simp [spec_l03Bits.l0] at h
 | k + 1 => by
  have ih0:=spec_l03Bits.mono_l k
  ·
   intro y0 y1 y2
   unfold spec_l03Bits.l0
   repeat' first
   | (with_reducible exact ih0 _ _ _)
   | (with_reducible exact LeO.refl _)
   | (with_reducible exact LeO.none _)
   | (with_reducible refine LeO.ite ?_ ?_)
   | (with_reducible refine LeO.bind ?_ (fun _ => ?_))
   | exact ih0 _ _ _
   | exact LeO.none _
   | refine LeO.ite ?_ ?_
   | refine LeO.bind ?_ (fun _ => ?_)
theorem spec_l03Bits.mono : ∀ a0 k,LeO (spec_l03Bits.f k a0) (spec_l03Bits.f (k + 1) a0):=by
 intro a0 k
 have ih0:=spec_l03Bits.mono_l k
 unfold spec_l03Bits.f
 repeat' first
   | (with_reducible exact ih0 _ _ _)
   | (with_reducible exact LeO.refl _)
   | (with_reducible exact LeO.none _)
   | (with_reducible refine LeO.ite ?_ ?_)
   | (with_reducible refine LeO.bind ?_ (fun _ => ?_))
   | exact ih0 _ _ _
   | exact LeO.none _
   | refine LeO.ite ?_ ?_
   | refine LeO.bind ?_ (fun _ => ?_)
set_option maxHeartbeats 8000000 in
set_option maxRecDepth 100000 in
theorem spec_l03Bits.calls (k : Nat) (a0 : ByteArray) (r : ByteArray) (w : World) (h : spec_l03Bits.f k a0 = some r) :
  Calls Tryd.prog 76 #[.string a0] w fun e w' => e = .returned (.string r) ∧ Below w.heap.size w w':=by
 have HB:=qg1 (Below.refl w.heap.size w)
 have H : (if 6 + a0.size ≤ 9223372036854775807 then (if ((⟨#[100,105,103,101,115,116]⟩ : ByteArray) ++ a0).size ≤ 9223372036854775807 then ((spec_l01Hash.f (bytesOf ((⟨#[100,105,103,101,115,116]⟩ : ByteArray) ++ a0))).bind fun t133 => (spec_l03Bits.l0 k t133 (([] : List Int)) 0)) else (none)) else (none)) = some r:=h
 clear h
 by_cases c2 : 6 + a0.size ≤ 9223372036854775807
 ·
  rw [if_pos c2] at H
  have c2b0:=eq_true c2
  have c2b1 : decide (6 + a0.size ≤ 9223372036854775807) = true:=decide_eq_true c2
  try have c2b2 : (9223372036854775807 < 6 + a0.size) = False:=eq_false (Nat.not_lt.2 c2)
  by_cases c3 : ((⟨#[100,105,103,101,115,116]⟩ : ByteArray) ++ a0).size ≤ 9223372036854775807
  ·
   rw [if_pos c3] at H
   have c3b0:=eq_true c3
   have c3b1 : decide (((⟨#[100,105,103,101,115,116]⟩ : ByteArray) ++ a0).size ≤ 9223372036854775807) = true:=decide_eq_true c3
   try have c3b2 : (9223372036854775807 < ((⟨#[100,105,103,101,115,116]⟩ : ByteArray) ++ a0).size) = False:=eq_false (Nat.not_lt.2 c3)
   (try (have c3b3:=c3;simp only [ByteArray.size_append] at c3b3;have c3b4:=eq_false (Nat.not_lt.2 c3b3)))
   obtain ⟨y130,hy130⟩ : ∃ y_ : List Int,y_ = (bytesOf ((⟨#[100,105,103,101,115,116]⟩ : ByteArray) ++ a0)):=⟨_,rfl⟩
   replace H : ((spec_l01Hash.f y130).bind fun t133 => (spec_l03Bits.l0 k t133 (([] : List Int)) 0)) = some r:=by first|(rw [hy130];with_reducible exact H)|(have H2_:=(Option.bind_some _ _).symm.trans H;rw [hy130];with_reducible exact H2_)|(have H2_:=(Option.bind_some _ _).symm.trans H;with_reducible exact H2_)|with_reducible exact H|(rw [hy130];exact H)|exact H
   have Ny130:=qg1 hy130
   clear hy130
   replace H:=Option.bind_eq_some_iff.mp H
   obtain ⟨t133,A40,H⟩:=H
   replace H : (spec_l03Bits.l0 k t133 (([] : List Int)) 0) = some r:=H
   have A4:=qg1 A40
   clear A40
   obtain ⟨y134,hy134⟩ : ∃ y_ : List Int,y_ = (([] : List Int)):=⟨_,rfl⟩
   replace H : (spec_l03Bits.l0 k t133 y134 0) = some r:=by first|(rw [hy134];with_reducible exact H)|(have H2_:=(Option.bind_some _ _).symm.trans H;rw [hy134];with_reducible exact H2_)|(have H2_:=(Option.bind_some _ _).symm.trans H;with_reducible exact H2_)|with_reducible exact H|(rw [hy134];exact H)|exact H
   have Ny134:=qg1 hy134
   clear hy134
   have H':=qg1 H
   clear H
   go_enter Tryd.func76,Tryd.ntmps76
   go_wp2_with (first|((with_reducible refine gate_dst (N:=8) rfl ?_);refine R_bytes _ 5 rfl (N:=8) rfl 9 22 _ rfl ((⟨#[100,105,103,101,115,116]⟩ : ByteArray) ++ a0) rfl Tryd.underlying9 Tryd.underlying22 Tryd.underlying5 (ok:=fun _ => True) trivial (of_decide_eq_true (by first|(with_reducible assumption)|assumption)) (Below.refl _ _) (Nat.le_refl _) ?_;intro v131 w5 ho6 hb hg_ hnew_;clear hg_ hnew_;(first|rw [← Ny130.out] at ho6|(simp only [Int.reduceToNat] at ho6;rw [← Ny130.out] at ho6));have n0_:=qg1 (Kd.R_lower ho6 (below_size (by repeat (first|(with_reducible first|exact HB.out|apply qd1|apply qe1|apply qf1)|exact HB.out))));have n1_:=qg1 (below_step (by repeat (first|(with_reducible first|exact HB.out|apply qd1|apply qe1|apply qf1)|exact HB.out)) hb);clear HB;have HO132:=n0_;have HB:=n1_;clear n0_ n1_;clear hb ho6;obtain ⟨Ao7,co7,eo7⟩:=Kd.R_slice HO132.out;subst eo7)|((with_reducible refine gate_callee (f:=54) rfl ?_);refine goesL_ (some 9) rfl rfl Tryd.func54 (by kernel_rfl) rfl #[.slice Ao7 y130.length co7] rfl (by (try simp only [List.map_toArray,List.map_cons,List.map_nil]);first|done|rfl|(simp only [List.length_drop,List.length_take];rfl)) ?_;(with_reducible refine (spec_l01Hash.calls _ _ y130 t133 _ ?side1 ?side2 A4.out).mono ?_);(case side1 => repeat (first|exact (Kd.R_reads' HO132.out).2.2|(with_reducible refine Kd.C_alloc ?_ _)|(with_reducible refine Kd.C_drewN ?_ _)|(with_reducible refine Kd.C_drew ?_)));(case side2 => exact (Kd.R_reads' HO132.out).2.1);rintro e w8 ⟨rfl,hb⟩;refine ⟨_,rfl,?_⟩;have n0_:=qg1 (Kd.R_below (by (with_reducible repeat (first|apply qa1|apply qb1|apply qc1));exact HO132.out) hb);have n1_:=qg1 (below_step (by repeat (first|(with_reducible first|exact HB.out|apply qd1|apply qe1|apply qf1)|exact HB.out)) hb);clear HO132;clear HB;have HO132:=n0_;have HB:=n1_;clear n0_ n1_;(try clear hb);(try clear hb2);(try clear hk);(try clear hi))|((with_reducible refine gate_dst (N:=10) rfl ?_);refine Kd.R_lit (Kd.int .u8) _ 5 ?hg (N:=10) ?hd (xs:=([] : List Int)) (inner:=[]) (ok:=fun _ => True) (okp:=fun _ => True) ?hr ?hp (fun _ hk => hk) trivial (Below.refl _ _) (Nat.le_refl _) (by simp) ?_;(case hd => rfl);(case hg => rfl);(case hr => first|(go_simp;done)|(go_simp;rfl));(case hp => exact (Reps.none _ _));intro v135 w9 ho10 hb hg_ hnew_;clear hg_ hnew_;(first|rw [← Ny134.out] at ho10|(simp only [Int.reduceToNat] at ho10;rw [← Ny134.out] at ho10));have n0_:=qg1 (Kd.R_elder' (by (with_reducible repeat (first|apply qa1|apply qb1|apply qc1));exact HO132.out) (Kd.R_base ho10) hb);have n1_:=qg1 (Kd.R_lower (Kd.R_new' ho10 (Kd.R_lt (by (with_reducible repeat (first|apply qa1|apply qb1|apply qc1));exact HO132.out))) (below_size (by repeat (first|(with_reducible first|exact HB.out|apply qd1|apply qe1|apply qf1)|exact HB.out))));have n2_:=qg1 (below_step (by repeat (first|(with_reducible first|exact HB.out|apply qd1|apply qe1|apply qf1)|exact HB.out)) hb);clear HO132;clear HB;have HO132:=n0_;have HO136:=n1_;have HB:=n2_;clear n0_ n1_ n2_;clear hb ho10))
   go_loopg [4,5] k (fun kq v4 v5 w' => ∃ (x4_1 : List Int) (x5_1 : Int),v5 = .int .i64 x5_1 ∧ Aside0 (spec_l03Bits.l0 kq t133 x4_1 x5_1 = some r) ∧ Aside0 (kq ≤ k) ∧ Aside0 (Kd.R (Kd.int .u8) 5 w' w.heap.size (fun _ => True) v4 x4_1) ∧ Aside0 (Below w.heap.size w w'))
   case atStart => exact ⟨(y134),(0),(by first|rfl|(simp;done)|(simp [*];done)),H',⟨Nat.le_refl _⟩,⟨by (with_reducible repeat (first|apply qa1|apply qb1|apply qc1));exact Kd.R_mono HO136.out (fun _ hk => trivial)⟩,⟨by repeat (first|(with_reducible first|exact HB.out|apply qd1|apply qe1|apply qf1)|exact HB.out)⟩⟩
   case round =>
    clear H'
    try clear c2
    try clear c2b0
    try clear c2b1
    try clear c2b2
    try clear p2
    try clear c3
    try clear c3b0
    try clear c3b1
    try clear c3b2
    try clear c5
    try clear c7
    obtain ⟨x4_1,x5_1,rfl,HA,HK1,HO_4,HB⟩:=hrel
    cases gk with
    | zero => exact absurd HA.out (by simp [spec_l03Bits.l0])
    | succ k1 =>
     have H:=HA.out
     clear HA
     simp only [spec_l03Bits.l0] at H
     by_cases c11 : x5_1 < 32
     ·
      rw [if_pos c11] at H
      have c11b0 : decide (x5_1 < 32) = true:=decide_eq_true c11
      clear c11
      obtain ⟨ji12,hji12⟩ : ∃ j_ : Int,(wrap64 (Int.tdiv x5_1 8)) = j_:=⟨_,rfl⟩
      replace H : (if 0 ≤ (ji12) then (if (ji12) < (t133.size : Int) then (if 0 ≤ (IntKind.u64.wrap (wrap64 (7 - (Int.tmod x5_1 8)))) then (if x4_1.length < 140737488355328 then (spec_l03Bits.l0 k1 t133 (x4_1 ++ [(48 + (Go.bits .and .u8 (shr .u8 (bt t133 (ji12)) (IntKind.u64.wrap (wrap64 (7 - (Int.tmod x5_1 8))))) 1)) % 256]) (wrap64 (x5_1 + 1))) else (none)) else (none)) else (none)) else (none)) = some r:=by first|(rw [hji12] at H;exact H)|(simp only [hji12] at H ⊢;exact H)
      have hji12w : (IntKind.i64.wrap (Int.tdiv x5_1 8)) = ji12:=(i64_w _).trans hji12
      by_cases c13 : 0 ≤ (ji12)
      ·
       rw [if_pos c13] at H
       have c13b0 : decide (0 ≤ (ji12)) = true:=decide_eq_true c13
       clear c13
       by_cases c14 : (ji12) < (t133.size : Int)
       ·
        rw [if_pos c14] at H
        have c14b0 : decide ((ji12) < (t133.size : Int)) = true:=decide_eq_true c14
        clear c14
        obtain ⟨ji16,hji16⟩ : ∃ j_ : Int,(IntKind.u64.wrap (wrap64 (7 - (Int.tmod x5_1 8)))) = j_:=⟨_,rfl⟩
        replace H : (if 0 ≤ (ji16) then (if x4_1.length < 140737488355328 then (spec_l03Bits.l0 k1 t133 (x4_1 ++ [(48 + (Go.bits .and .u8 (shr .u8 (bt t133 (ji12)) (ji16)) 1)) % 256]) (wrap64 (x5_1 + 1))) else (none)) else (none)) = some r:=by first|(rw [hji16] at H;exact H)|(simp only [hji16] at H ⊢;exact H)
        by_cases c17 : 0 ≤ (ji16)
        ·
         rw [if_pos c17] at H
         have c17b0:=eq_true c17
         have c17b1 : decide (0 ≤ (ji16)) = true:=decide_eq_true c17
         clear c17
         obtain ⟨ji18,hji18⟩ : ∃ j_ : Int,(shr .u8 (bt t133 (ji12)) (ji16)) = j_:=⟨_,rfl⟩
         replace H : (if x4_1.length < 140737488355328 then (spec_l03Bits.l0 k1 t133 (x4_1 ++ [(48 + (Go.bits .and .u8 (ji18) 1)) % 256]) (wrap64 (x5_1 + 1))) else (none)) = some r:=by first|(rw [hji18] at H;exact H)|(simp only [hji18] at H ⊢;exact H)
         have hji18_ : ((bt t133 (ji12)) / 2 ^ min (ji16).toNat 8) = ji18:=hji18
         have hji18z : (ji16) ≤ 8 → ((bt t133 (ji12)) / 2 ^ (ji16).toNat) = ji18:=shr_small hji18
         by_cases c19 : x4_1.length < 140737488355328
         ·
          rw [if_pos c19] at H
          have LMc19:=qg1 c19
          clear c19
          obtain ⟨y137,hy137⟩ : ∃ y_ : List Int,y_ = (x4_1 ++ [(48 + (Go.bits .and .u8 (ji18) 1)) % 256]):=⟨_,rfl⟩
          replace H : (spec_l03Bits.l0 k1 t133 y137 (wrap64 (x5_1 + 1))) = some r:=by first|(rw [hy137];with_reducible exact H)|(have H2_:=(Option.bind_some _ _).symm.trans H;rw [hy137];with_reducible exact H2_)|(have H2_:=(Option.bind_some _ _).symm.trans H;with_reducible exact H2_)|with_reducible exact H|(rw [hy137];exact H)|exact H
          have Ny137:=qg1 hy137
          clear hy137
          have H':=qg1 H
          clear H
          have p15 : 0 ≤ ((ji12) : Int):=of_decide_eq_true (by first|(with_reducible assumption)|assumption)
          have q15 : (ji12) < (t133.size : Int):=of_decide_eq_true (by first|(with_reducible assumption)|assumption)
          have hx15:=bt_at t133 (ji12)
          have bl15:=(bt_range t133 (ji12)).1
          have bh15:=(bt_range t133 (ji12)).2
          replace p15:=eq_true p15
          replace q15:=eq_true q15
          go_wp2_with (first|((with_reducible refine gate_builtin (b:=.append) (xs:=#[.tmp 15,.tmp 27]) rfl ?_);at_builtin;refine Kd.R_append (Kd.int .u8) (w0:=w) w.heap.size rfl (.tmp 15) (.tmp 27) 22 5 (.int .u8 0) 1 rfl Tryd.underlying22 info5 rfl (by decide) (by omega) u4 x4_1 ((48 + (Go.bits .and .u8 (ji18) 1)) % 256) [.int .u8 ((48 + (Go.bits .and .u8 (ji18) 1)) % 256)] (fun _ => True) (fun _ => False) rfl rfl ?aP (fun _ hk => hk.elim) ?aF ?aO ?aB ?aS ?aL ?_;(case aP => exact rfl);(case aB => exact (by repeat (first|(with_reducible first|exact HB.out|apply qd1|apply qe1|apply qf1)|exact HB.out)));(case aF => exact (fun _ _ => trivial));(case aO => exact (by (with_reducible repeat (first|apply qa1|apply qb1|apply qc1));exact HO_4.out));(case aS => exact (below_size (by repeat (first|(with_reducible first|exact HB.out|apply qd1|apply qe1|apply qf1)|exact HB.out))));(case aL => have:=LMc19.out;omega);intro v138 w20 ho hb hg hat;rw [← Ny137.out] at ho;have n0_:=qg1 (hb);have n1_:=qg1 (ho);clear HB;clear HO_4;have HB:=n0_;have HO139:=n1_;clear n0_ n1_;clear ho hb hg hat))
          go_roundg k1
          case measure => have:=HK1.out;omega
          case rel => exact ⟨(y137),(wrap64 (x5_1 + 1)),(by first|rfl|(simp;done)|(simp [*];done)),H',⟨by have:=HK1.out;omega⟩,⟨by (with_reducible repeat (first|apply qa1|apply qb1|apply qc1));exact HO139.out⟩,⟨by repeat (first|(with_reducible first|exact HB.out|apply qd1|apply qe1|apply qf1)|exact HB.out)⟩⟩
         ·
          rw [if_neg c19] at H
          exact absurd H (by simp)
        ·
         rw [if_neg c17] at H
         exact absurd H (by simp)
       ·
        rw [if_neg c14] at H
        exact absurd H (by simp)
      ·
       rw [if_neg c13] at H
       exact absurd H (by simp)
     ·
      rw [if_neg c11] at H
      have c11b0 : decide (x5_1 < 32) = false:=decide_eq_false c11
      clear c11
      obtain rfl:=Option.some.inj H
      have hcv21:=own_string (P:=Tryd.prog) Tryd.underlying22 Tryd.underlying5 Tryd.underlying9 (Kd.own_of_R HO_4.out)
      go_wp2
      go_ret
      exact ⟨by first|rfl|(simp [errW_none,errW_some] <;> rfl)|(simp [*,errW_none,errW_some] <;> rfl),by repeat (first|(with_reducible first|exact HB.out|apply qd1|apply qe1|apply qf1)|exact HB.out)⟩
  ·
   rw [if_neg c3] at H
   exact absurd H (by simp)
 ·
  rw [if_neg c2] at H
  exact absurd H (by simp)

/-! ### spec_l03Node: function 77 -/
def spec_l03Node.f (a0 : ByteArray) (a1 : ByteArray) : Option (ByteArray):=if 4 + a0.size ≤ 9223372036854775807 then (if ((⟨#[110,111,100,101]⟩ : ByteArray) ++ a0).size + a1.size ≤ 9223372036854775807 then (if (((⟨#[110,111,100,101]⟩ : ByteArray) ++ a0) ++ a1).size ≤ 9223372036854775807 then ((spec_l01Hash.f (bytesOf (((⟨#[110,111,100,101]⟩ : ByteArray) ++ a0) ++ a1))).bind fun t143 => (some t143)) else (none)) else (none)) else (none)
set_option maxHeartbeats 8000000 in
set_option maxRecDepth 100000 in
theorem spec_l03Node.calls (a0 : ByteArray) (a1 : ByteArray) (r : ByteArray) (w : World) (h : spec_l03Node.f a0 a1 = some r) :
  Calls Tryd.prog 77 #[.string a0,.string a1] w fun e w' => e = .returned (.string r) ∧ Below w.heap.size w w':=by
 have HB:=qg1 (Below.refl w.heap.size w)
 have H : (if 4 + a0.size ≤ 9223372036854775807 then (if ((⟨#[110,111,100,101]⟩ : ByteArray) ++ a0).size + a1.size ≤ 9223372036854775807 then (if (((⟨#[110,111,100,101]⟩ : ByteArray) ++ a0) ++ a1).size ≤ 9223372036854775807 then ((spec_l01Hash.f (bytesOf (((⟨#[110,111,100,101]⟩ : ByteArray) ++ a0) ++ a1))).bind fun t143 => (some t143)) else (none)) else (none)) else (none)) = some r:=h
 clear h
 by_cases c3 : 4 + a0.size ≤ 9223372036854775807
 ·
  rw [if_pos c3] at H
  have c3b0:=eq_true c3
  have c3b1 : decide (4 + a0.size ≤ 9223372036854775807) = true:=decide_eq_true c3
  try have c3b2 : (9223372036854775807 < 4 + a0.size) = False:=eq_false (Nat.not_lt.2 c3)
  by_cases c4 : ((⟨#[110,111,100,101]⟩ : ByteArray) ++ a0).size + a1.size ≤ 9223372036854775807
  ·
   rw [if_pos c4] at H
   have c4b0:=eq_true c4
   have c4b1 : decide (((⟨#[110,111,100,101]⟩ : ByteArray) ++ a0).size + a1.size ≤ 9223372036854775807) = true:=decide_eq_true c4
   try have c4b2 : (9223372036854775807 < ((⟨#[110,111,100,101]⟩ : ByteArray) ++ a0).size + a1.size) = False:=eq_false (Nat.not_lt.2 c4)
   (try (have c4b3:=c4;simp only [ByteArray.size_append] at c4b3;have c4b4:=eq_false (Nat.not_lt.2 c4b3)))
   (try (have c4b5 : (9223372036854775807 < 4 + a0.size + a1.size) = False:=eq_false (by have h_:=c4;simp only [ByteArray.size_append] at h_;have hl0_ : ((⟨#[110,111,100,101]⟩ : ByteArray)).size = 4:=rfl;omega)))
   by_cases c5 : (((⟨#[110,111,100,101]⟩ : ByteArray) ++ a0) ++ a1).size ≤ 9223372036854775807
   ·
    rw [if_pos c5] at H
    have c5b0:=eq_true c5
    have c5b1 : decide ((((⟨#[110,111,100,101]⟩ : ByteArray) ++ a0) ++ a1).size ≤ 9223372036854775807) = true:=decide_eq_true c5
    try have c5b2 : (9223372036854775807 < (((⟨#[110,111,100,101]⟩ : ByteArray) ++ a0) ++ a1).size) = False:=eq_false (Nat.not_lt.2 c5)
    (try (have c5b3:=c5;simp only [ByteArray.size_append] at c5b3;have c5b4:=eq_false (Nat.not_lt.2 c5b3)))
    obtain ⟨y140,hy140⟩ : ∃ y_ : List Int,y_ = (bytesOf (((⟨#[110,111,100,101]⟩ : ByteArray) ++ a0) ++ a1)):=⟨_,rfl⟩
    replace H : ((spec_l01Hash.f y140).bind fun t143 => (some t143)) = some r:=by first|(rw [hy140];with_reducible exact H)|(have H2_:=(Option.bind_some _ _).symm.trans H;rw [hy140];with_reducible exact H2_)|(have H2_:=(Option.bind_some _ _).symm.trans H;with_reducible exact H2_)|with_reducible exact H|(rw [hy140];exact H)|exact H
    have Ny140:=qg1 hy140
    clear hy140
    replace H:=Option.bind_eq_some_iff.mp H
    obtain ⟨t143,A60,H⟩:=H
    replace H : (some t143) = some r:=H
    have A6:=qg1 A60
    clear A60
    obtain rfl:=Option.some.inj H
    go_enter Tryd.func77,Tryd.ntmps77
    go_wp2_with (first|((with_reducible refine gate_dst (N:=9) rfl ?_);refine R_bytes _ 5 rfl (N:=9) rfl 9 22 _ rfl (((⟨#[110,111,100,101]⟩ : ByteArray) ++ a0) ++ a1) rfl Tryd.underlying9 Tryd.underlying22 Tryd.underlying5 (ok:=fun _ => True) trivial (of_decide_eq_true (by first|(with_reducible assumption)|assumption)) (Below.refl _ _) (Nat.le_refl _) ?_;intro v141 w7 ho8 hb hg_ hnew_;clear hg_ hnew_;(first|rw [← Ny140.out] at ho8|(simp only [Int.reduceToNat] at ho8;rw [← Ny140.out] at ho8));have n0_:=qg1 (Kd.R_lower ho8 (below_size (by repeat (first|(with_reducible first|exact HB.out|apply qd1|apply qe1|apply qf1)|exact HB.out))));have n1_:=qg1 (below_step (by repeat (first|(with_reducible first|exact HB.out|apply qd1|apply qe1|apply qf1)|exact HB.out)) hb);clear HB;have HO142:=n0_;have HB:=n1_;clear n0_ n1_;clear hb ho8;obtain ⟨Ao9,co9,eo9⟩:=Kd.R_slice HO142.out;subst eo9)|((with_reducible refine gate_callee (f:=54) rfl ?_);refine goesL_ (some 10) rfl rfl Tryd.func54 (by kernel_rfl) rfl #[.slice Ao9 y140.length co9] rfl (by (try simp only [List.map_toArray,List.map_cons,List.map_nil]);first|done|rfl|(simp only [List.length_drop,List.length_take];rfl)) ?_;(with_reducible refine (spec_l01Hash.calls _ _ y140 t143 _ ?side1 ?side2 A6.out).mono ?_);(case side1 => repeat (first|exact (Kd.R_reads' HO142.out).2.2|(with_reducible refine Kd.C_alloc ?_ _)|(with_reducible refine Kd.C_drewN ?_ _)|(with_reducible refine Kd.C_drew ?_)));(case side2 => exact (Kd.R_reads' HO142.out).2.1);rintro e w10 ⟨rfl,hb⟩;refine ⟨_,rfl,?_⟩;have n0_:=qg1 (Kd.R_below (by (with_reducible repeat (first|apply qa1|apply qb1|apply qc1));exact HO142.out) hb);have n1_:=qg1 (below_step (by repeat (first|(with_reducible first|exact HB.out|apply qd1|apply qe1|apply qf1)|exact HB.out)) hb);clear HO142;clear HB;have HO142:=n0_;have HB:=n1_;clear n0_ n1_;(try clear hb);(try clear hb2);(try clear hk);(try clear hi)))
    go_ret
    exact ⟨by first|rfl|(simp [errW_none,errW_some] <;> rfl)|(simp [*,errW_none,errW_some] <;> rfl),by repeat (first|(with_reducible first|exact HB.out|apply qd1|apply qe1|apply qf1)|exact HB.out)⟩
   ·
    rw [if_neg c5] at H
    exact absurd H (by simp)
  ·
   rw [if_neg c4] at H
   exact absurd H (by simp)
 ·
  rw [if_neg c3] at H
  exact absurd H (by simp)

end Go.Proofs.YtmkaknegjahjaaaDoor.PFnLamport
