-- squeezed
-- aliased
import Derived.Test.YtjkanhjapddhnaaPRokx0
namespace Go.Proofs.Ytjkanhjapddhnaa.PRok
open Go.RowKit Go.Proofs.YtjkanhjapddhnaaV.PrintWords Go.Proofs.YtjkanhjapddhnaaV.PrintLast Go.Proofs.YtjkanhjapddhnaaV.PrintMore
attribute [local go_sem] max2_int min2_int max_two min_two max_three min_three max_four min_four u8_wm u32_wm   -- for this text's walks alone
set_option linter.unusedVariables false
set_option linter.unusedSimpArgs false
def impl_within.f (a0 : Int) (a1 : Int) (a2 : Int) : Option (Bool):=if a0 ≥ a1 then (some (decide (a0 ≤ a2))) else (some false)
set_option maxHeartbeats 8000000 in
set_option maxRecDepth 100000 in
theorem impl_within.calls (a0 : Int) (a1 : Int) (a2 : Int) (r : Bool) (w : World) (h : impl_within.f a0 a1 a2 = some r) :
  Calls Try.prog 46 #[.int .i64 a0,.int .i64 a1,.int .i64 a2] w fun e w' => e = .returned (.bool r) ∧ Drawn0 w w':=by
 have H : (if a0 ≥ a1 then (some (decide (a0 ≤ a2))) else (some false)) = some r:=h
 clear h
 by_cases c4 : a0 ≥ a1
 ·
  rw [if_pos c4] at H
  have c4b0 : decide (a1 ≤ a0) = true:=decide_eq_true c4
  clear c4
  obtain rfl:=Option.some.inj H
  go_enter Try.func46,Try.ntmps46
  go_wp2
  go_ret
  exact ⟨by first|rfl|(simp;done)|(simp [*];done),by repeat (first|exact Drawn0.refl _|apply Drawn0.step)⟩
 ·
  rw [if_neg c4] at H
  have c4b0 : decide (a1 ≤ a0) = false:=decide_eq_false c4
  clear c4
  obtain rfl:=Option.some.inj H
  go_enter Try.func46,Try.ntmps46
  go_wp2
  go_ret
  exact ⟨by first|rfl|(simp;done)|(simp [*];done),by repeat (first|exact Drawn0.refl _|apply Drawn0.step)⟩
def impl_isLetter.f (a0 : Int) : Option (Bool):=if a0 ≥ 97 then (if a0 ≤ 122 then (some true) else (if a0 ≥ 65 then (if a0 ≤ 90 then (some true) else (some (a0 == 95))) else (some (a0 == 95)))) else (if a0 ≥ 65 then (if a0 ≤ 90 then (some true) else (some (a0 == 95))) else (some (a0 == 95)))
set_option maxHeartbeats 8000000 in
set_option maxRecDepth 100000 in
theorem impl_isLetter.calls (a0 : Int) (r : Bool) (w : World) (h : impl_isLetter.f a0 = some r) :
  Calls Try.prog 126 #[.int .u8 a0] w fun e w' => e = .returned (.bool r) ∧ Drawn0 w w':=by
 have H : (if a0 ≥ 97 then (if a0 ≤ 122 then (some true) else (if a0 ≥ 65 then (if a0 ≤ 90 then (some true) else (some (a0 == 95))) else (some (a0 == 95)))) else (if a0 ≥ 65 then (if a0 ≤ 90 then (some true) else (some (a0 == 95))) else (some (a0 == 95)))) = some r:=h
 clear h
 by_cases c2 : a0 ≥ 97
 ·
  rw [if_pos c2] at H
  have c2b0 : decide (97 ≤ a0) = true:=decide_eq_true c2
  clear c2
  by_cases c3 : a0 ≤ 122
  ·
   rw [if_pos c3] at H
   have c3b0 : decide (a0 ≤ 122) = true:=decide_eq_true c3
   clear c3
   obtain rfl:=Option.some.inj H
   go_enter Try.func126,Try.ntmps126
   go_wp2
   go_ret
   exact ⟨by first|rfl|(simp;done)|(simp [*];done),by repeat (first|exact Drawn0.refl _|apply Drawn0.step)⟩
  ·
   rw [if_neg c3] at H
   have c3b0 : decide (a0 ≤ 122) = false:=decide_eq_false c3
   clear c3
   by_cases c4 : a0 ≥ 65
   ·
    rw [if_pos c4] at H
    have c4b0 : decide (65 ≤ a0) = true:=decide_eq_true c4
    clear c4
    by_cases c5 : a0 ≤ 90
    ·
     rw [if_pos c5] at H
     have c5b0 : decide (a0 ≤ 90) = true:=decide_eq_true c5
     clear c5
     obtain rfl:=Option.some.inj H
     go_enter Try.func126,Try.ntmps126
     go_wp2
     go_ret
     exact ⟨by first|rfl|(simp;done)|(simp [*];done),by repeat (first|exact Drawn0.refl _|apply Drawn0.step)⟩
    ·
     rw [if_neg c5] at H
     have c5b0 : decide (a0 ≤ 90) = false:=decide_eq_false c5
     clear c5
     obtain rfl:=Option.some.inj H
     go_enter Try.func126,Try.ntmps126
     go_wp2
     go_ret
     exact ⟨by first|rfl|(simp;done)|(simp [*];done),by repeat (first|exact Drawn0.refl _|apply Drawn0.step)⟩
   ·
    rw [if_neg c4] at H
    have c4b0 : decide (65 ≤ a0) = false:=decide_eq_false c4
    clear c4
    obtain rfl:=Option.some.inj H
    go_enter Try.func126,Try.ntmps126
    go_wp2
    go_ret
    exact ⟨by first|rfl|(simp;done)|(simp [*];done),by repeat (first|exact Drawn0.refl _|apply Drawn0.step)⟩
 ·
  rw [if_neg c2] at H
  have c2b0 : decide (97 ≤ a0) = false:=decide_eq_false c2
  clear c2
  by_cases c6 : a0 ≥ 65
  ·
   rw [if_pos c6] at H
   have c6b0 : decide (65 ≤ a0) = true:=decide_eq_true c6
   clear c6
   by_cases c7 : a0 ≤ 90
   ·
    rw [if_pos c7] at H
    have c7b0 : decide (a0 ≤ 90) = true:=decide_eq_true c7
    clear c7
    obtain rfl:=Option.some.inj H
    go_enter Try.func126,Try.ntmps126
    go_wp2
    go_ret
    exact ⟨by first|rfl|(simp;done)|(simp [*];done),by repeat (first|exact Drawn0.refl _|apply Drawn0.step)⟩
   ·
    rw [if_neg c7] at H
    have c7b0 : decide (a0 ≤ 90) = false:=decide_eq_false c7
    clear c7
    obtain rfl:=Option.some.inj H
    go_enter Try.func126,Try.ntmps126
    go_wp2
    go_ret
    exact ⟨by first|rfl|(simp;done)|(simp [*];done),by repeat (first|exact Drawn0.refl _|apply Drawn0.step)⟩
  ·
   rw [if_neg c6] at H
   have c6b0 : decide (65 ≤ a0) = false:=decide_eq_false c6
   clear c6
   obtain rfl:=Option.some.inj H
   go_enter Try.func126,Try.ntmps126
   go_wp2
   go_ret
   exact ⟨by first|rfl|(simp;done)|(simp [*];done),by repeat (first|exact Drawn0.refl _|apply Drawn0.step)⟩
mutual
def impl_NameOK.j0 : Nat → ByteArray → Bool → Option (Bool)
 | 0,_,_ => none
 | k + 1,x0,x17 => if x17 = true then (some false) else (impl_NameOK.l0 k x0 (x0.size : Int) 0)
def impl_NameOK.l0 : Nat → ByteArray → Int → Int → Option (Bool)
 | 0,_,_,_ => none
 | k + 1,x0,x19,x20 => if x20 < x19 then (if 0 ≤ x20 then (if x20 < (x0.size : Int) then ((impl_isLetter.f (bt x0 x20)).bind fun t102 => (if t102 = true then (impl_NameOK.l0 k x0 x19 (wrap64 (x20 + 1))) else (if (bt x0 x20) < 48 then (some false) else (if (bt x0 x20) > 57 then (some false) else (impl_NameOK.l0 k x0 x19 (wrap64 (x20 + 1))))))) else (none)) else (none)) else (some true)
end
def impl_NameOK.f (k : Nat) (a0 : ByteArray) : Option (Bool):=if (a0.size : Int) < 1 then (impl_NameOK.j0 k a0 true) else (if (a0.size : Int) > 40 then (impl_NameOK.j0 k a0 true) else (if 0 < (a0.size : Int) then ((impl_isLetter.f (bt a0 0)).bind fun t101 => (impl_NameOK.j0 k a0 (!t101))) else (none)))
set_option maxHeartbeats 8000000 in
set_option maxRecDepth 100000 in
theorem impl_NameOK.calls (k : Nat) (a0 : ByteArray) (r : Bool) (w : World) (h : impl_NameOK.f k a0 = some r) :
  Calls Try.prog 104 #[.string a0] w fun e w' => e = .returned (.bool r) ∧ Drawn0 w w':=by
 have H : (if (a0.size : Int) < 1 then (impl_NameOK.j0 k a0 true) else (if (a0.size : Int) > 40 then (impl_NameOK.j0 k a0 true) else (if 0 < (a0.size : Int) then ((impl_isLetter.f (bt a0 0)).bind fun t101 => (impl_NameOK.j0 k a0 (!t101))) else (none)))) = some r:=h
 clear h
 have HC2:=Aside0.mk H
 clear H
 go_enter Try.func104,Try.ntmps104
 go_upto_region 1 with (fail)
 go_cut [17] (fun v17 wc => ∃ (kq : Nat) (x17_1 : Bool),v17 = .bool x17_1 ∧ Aside0 (impl_NameOK.j0 kq a0 x17_1 = some r) ∧ Aside0 (kq ≤ k) ∧ Drawn0 w wc)
 case first =>
  have H:=HC2.out
  clear HC2
  by_cases c3 : (a0.size : Int) < 1
  ·
   rw [if_pos c3] at H
   have c3b0 : decide ((a0.size : Int) < 1) = true:=decide_eq_true c3
   have c3b1 : decide (a0.size < 1) = true:=decide_eq_true (by omega)
   clear c3
   (first|rw [c3b0]|(simp only [i64_w,i32_w];rw [c3b0])|skip)
   have H':=Aside0.mk H
   clear H
   go_wp2
   go_meet
   case rel => exact ⟨_,(true),(by first|rfl|(simp;done)|(simp [*];done)),H',⟨by first|omega|exact Nat.le_refl _⟩,by repeat (first|exact Drawn0.refl _|apply Drawn0.step)⟩
  ·
   rw [if_neg c3] at H
   have c3b0 : decide ((a0.size : Int) < 1) = false:=decide_eq_false c3
   have c3b1 : decide (a0.size < 1) = false:=decide_eq_false (by omega)
   clear c3
   (first|rw [c3b0]|(simp only [i64_w,i32_w];rw [c3b0])|skip)
   by_cases c4 : (a0.size : Int) > 40
   ·
    rw [if_pos c4] at H
    have c4b0 : decide (40 < (a0.size : Int)) = true:=decide_eq_true c4
    have c4b1 : decide (40 < a0.size) = true:=decide_eq_true (by omega)
    clear c4
    have H':=Aside0.mk H
    clear H
    go_wp2
    go_meet
    case rel => exact ⟨_,(true),(by first|rfl|(simp;done)|(simp [*];done)),H',⟨by first|omega|exact Nat.le_refl _⟩,by repeat (first|exact Drawn0.refl _|apply Drawn0.step)⟩
   ·
    rw [if_neg c4] at H
    have c4b0 : decide (40 < (a0.size : Int)) = false:=decide_eq_false c4
    have c4b1 : decide (40 < a0.size) = false:=decide_eq_false (by omega)
    clear c4
    by_cases c5 : 0 < (a0.size : Int)
    ·
     rw [if_pos c5] at H
     have c5b0 : decide (0 < (a0.size : Int)) = true:=decide_eq_true c5
     have c5b1 : decide (0 < a0.size) = true:=decide_eq_true (by omega)
     clear c5
     replace H:=Option.bind_eq_some_iff.mp H
     obtain ⟨t101,A70,H⟩:=H
     replace H : (impl_NameOK.j0 k a0 (!t101)) = some r:=H
     have A7:=Aside0.mk A70
     clear A70
     have H':=Aside0.mk H
     clear H
     have p6 : 0 ≤ (0 : Int):=(by omega)
     have q6 : 0 < a0.size:=(by have : (0 : Int) < (a0.size : Int):=of_decide_eq_true (by first|(with_reducible assumption)|assumption);omega)
     have hx6 : ∀ h : 0 < a0.size,((a0[0]'h).toNat : Int) = bt a0 0:=bt_at a0 0
     clear p6
     have qi6 : (0 < (a0.size : Int)) = True:=eq_true (of_decide_eq_true (by first|(with_reducible assumption)|assumption))
     replace q6:=eq_true q6
     go_wp2_with (first|(go_at_call 126;(with_reducible refine (impl_isLetter.calls (bt a0 0) t101 _ A7.out).mono ?_);rintro e w' ⟨rfl,⟨nd,rfl⟩⟩))
     go_meet
     case rel => exact ⟨_,(!t101),(by first|rfl|(simp;done)|(simp [*];done)),H',⟨by first|omega|exact Nat.le_refl _⟩,by repeat (first|exact Drawn0.refl _|apply Drawn0.step)⟩
    ·
     rw [if_neg c5] at H
     exact absurd H (by simp)
 case rest =>
  clear HC2
  try clear c1
  try clear p2
  try clear c3
  try clear c3b0
  try clear c3b1
  try clear c4
  try clear c4b0
  try clear c4b1
  try clear c5
  try clear c5b0
  try clear c5b1
  try clear p6
  try clear q6
  try clear hx6
  try clear qi6
  try clear p6
  try clear q6
  obtain ⟨kq,x17_1,rfl,HA,HJ1,⟨mc1,rfl⟩⟩:=hcut
  cases kq with
  | zero => exact absurd HA.out (by simp [impl_NameOK.j0])
  | succ kj1 =>
   have H:=HA.out
   clear HA
   simp only [impl_NameOK.j0] at H
   by_cases c8 : x17_1 = true
   ·
    subst c8
    have H1 : (some false) = some r:=by rw [if_pos rfl] at H;exact H
    clear H
    have H:=H1
    clear H1
    obtain rfl:=Option.some.inj H
    go_wp2
    go_ret
    exact ⟨by first|rfl|(simp;done)|(simp [*];done),by repeat (first|exact Drawn0.refl _|apply Drawn0.step)⟩
   ·
    replace c8:=Bool.eq_false_iff.mpr c8
    subst c8
    have H1 : (impl_NameOK.l0 kj1 a0 (a0.size : Int) 0) = some r:=by rw [if_neg (show ¬ (false = true) by decide)] at H;exact H
    clear H
    have H:=H1
    clear H1
    have H':=Aside0.mk H
    clear H
    go_wp2
    go_loopg [20] kj1 (fun kq v20 w' => ∃ (x20_2 : Int),v20 = .int .i64 x20_2 ∧ Aside0 (impl_NameOK.l0 kq a0 (a0.size : Int) x20_2 = some r) ∧ Aside0 (kq ≤ kj1) ∧ Drawn0 w w')
    case atStart => exact ⟨(0),(by first|rfl|(simp;done)|(simp [*];done)),H',⟨Nat.le_refl _⟩,by repeat (first|exact Drawn0.refl _|apply Drawn0.step)⟩
    case round =>
     clear H'
     try clear c1
     try clear p2
     try clear c3
     try clear c3b0
     try clear c3b1
     try clear c4
     try clear c4b0
     try clear c4b1
     try clear c5
     try clear c5b0
     try clear c5b1
     try clear p6
     try clear q6
     try clear hx6
     try clear qi6
     try clear c8
     try clear p2
     try clear p6
     try clear q6
     obtain ⟨x20_2,rfl,HA,HK2,⟨m2,rfl⟩⟩:=hrel
     cases gk with
     | zero => exact absurd HA.out (by simp [impl_NameOK.l0])
     | succ k2 =>
      have H:=HA.out
      clear HA
      simp only [impl_NameOK.l0] at H
      by_cases c9 : x20_2 < (a0.size : Int)
      ·
       rw [if_pos c9] at H
       have c9b0 : decide (x20_2 < (a0.size : Int)) = true:=decide_eq_true c9
       clear c9
       by_cases c10 : 0 ≤ x20_2
       ·
        rw [if_pos c10] at H
        have c10b0 : decide (0 ≤ x20_2) = true:=decide_eq_true c10
        clear c10
        by_cases c11 : x20_2 < (a0.size : Int)
        ·
         rw [if_pos c11] at H
         have c11b0 : decide (x20_2 < (a0.size : Int)) = true:=decide_eq_true c11
         clear c11
         replace H:=Option.bind_eq_some_iff.mp H
         obtain ⟨t102,A130,H⟩:=H
         replace H : (if t102 = true then (impl_NameOK.l0 k2 a0 (a0.size : Int) (wrap64 (x20_2 + 1))) else (if (bt a0 x20_2) < 48 then (some false) else (if (bt a0 x20_2) > 57 then (some false) else (impl_NameOK.l0 k2 a0 (a0.size : Int) (wrap64 (x20_2 + 1)))))) = some r:=H
         have A13:=Aside0.mk A130
         clear A130
         by_cases c14 : t102 = true
         ·
          subst c14
          have H1 : (impl_NameOK.l0 k2 a0 (a0.size : Int) (wrap64 (x20_2 + 1))) = some r:=by rw [if_pos rfl] at H;exact H
          clear H
          have H:=H1
          clear H1
          have H':=Aside0.mk H
          clear H
          have p12 : 0 ≤ (x20_2 : Int):=of_decide_eq_true (by first|(with_reducible assumption)|assumption)
          have q12 : x20_2 < (a0.size : Int):=of_decide_eq_true (by first|(with_reducible assumption)|assumption)
          have hx12:=bt_at a0 x20_2
          have bl12:=(bt_range a0 x20_2).1
          have bh12:=(bt_range a0 x20_2).2
          replace p12:=eq_true p12
          replace q12:=eq_true q12
          go_wp2_with (first|((with_reducible refine gate_callee (f:=126) rfl ?_);refine goesL_ (some 26) rfl rfl Try.func126 (by kernel_rfl) rfl #[.int .u8 (bt a0 x20_2)] rfl (by (try simp only [List.map_toArray,List.map_cons,List.map_nil]);first|done|rfl|(simp only [List.length_drop,List.length_take];rfl)) ?_;(with_reducible refine (impl_isLetter.calls (bt a0 x20_2) true _ A13.out).mono ?_);rintro e w' ⟨rfl,⟨nd,rfl⟩⟩;refine ⟨_,rfl,?_⟩))
          go_roundg k2
          case measure => have:=HJ1.out;have:=HK2.out;omega
          case rel => exact ⟨(wrap64 (x20_2 + 1)),(by first|rfl|(simp;done)|(simp [*];done)),H',⟨by have:=HJ1.out;have:=HK2.out;omega⟩,by repeat (first|exact Drawn0.refl _|apply Drawn0.step)⟩
         ·
          replace c14:=Bool.eq_false_iff.mpr c14
          subst c14
          have H1 : (if (bt a0 x20_2) < 48 then (some false) else (if (bt a0 x20_2) > 57 then (some false) else (impl_NameOK.l0 k2 a0 (a0.size : Int) (wrap64 (x20_2 + 1))))) = some r:=by rw [if_neg (show ¬ (false = true) by decide)] at H;exact H
          clear H
          have H:=H1
          clear H1
          by_cases c16 : (bt a0 x20_2) < 48
          ·
           rw [if_pos c16] at H
           have c16b0 : decide ((bt a0 x20_2) < 48) = true:=decide_eq_true c16
           clear c16
           obtain rfl:=Option.some.inj H
           have p12 : 0 ≤ (x20_2 : Int):=of_decide_eq_true (by first|(with_reducible assumption)|assumption)
           have q12 : x20_2 < (a0.size : Int):=of_decide_eq_true (by first|(with_reducible assumption)|assumption)
           have hx12:=bt_at a0 x20_2
           have bl12:=(bt_range a0 x20_2).1
           have bh12:=(bt_range a0 x20_2).2
           replace p12:=eq_true p12
           replace q12:=eq_true q12
           go_wp2_with (first|((with_reducible refine gate_callee (f:=126) rfl ?_);refine goesL_ (some 26) rfl rfl Try.func126 (by kernel_rfl) rfl #[.int .u8 (bt a0 x20_2)] rfl (by (try simp only [List.map_toArray,List.map_cons,List.map_nil]);first|done|rfl|(simp only [List.length_drop,List.length_take];rfl)) ?_;(with_reducible refine (impl_isLetter.calls (bt a0 x20_2) false _ A13.out).mono ?_);rintro e w' ⟨rfl,⟨nd,rfl⟩⟩;refine ⟨_,rfl,?_⟩;have p15 : 0 ≤ (x20_2 : Int):=of_decide_eq_true (by first|(with_reducible assumption)|assumption);have q15 : x20_2 < (a0.size : Int):=of_decide_eq_true (by first|(with_reducible assumption)|assumption);have hx15:=bt_at a0 x20_2;have bl15:=(bt_range a0 x20_2).1;have bh15:=(bt_range a0 x20_2).2;replace p15:=eq_true p15;replace q15:=eq_true q15))
           go_ret
           exact ⟨by first|rfl|(simp;done)|(simp [*];done),by repeat (first|exact Drawn0.refl _|apply Drawn0.step)⟩
          ·
           rw [if_neg c16] at H
           have c16b0 : decide ((bt a0 x20_2) < 48) = false:=decide_eq_false c16
           clear c16
           by_cases c18 : (bt a0 x20_2) > 57
           ·
            rw [if_pos c18] at H
            have c18b0 : decide (57 < (bt a0 x20_2)) = true:=decide_eq_true c18
            clear c18
            obtain rfl:=Option.some.inj H
            have p12 : 0 ≤ (x20_2 : Int):=of_decide_eq_true (by first|(with_reducible assumption)|assumption)
            have q12 : x20_2 < (a0.size : Int):=of_decide_eq_true (by first|(with_reducible assumption)|assumption)
            have hx12:=bt_at a0 x20_2
            have bl12:=(bt_range a0 x20_2).1
            have bh12:=(bt_range a0 x20_2).2
            replace p12:=eq_true p12
            replace q12:=eq_true q12
            go_wp2_with (first|((with_reducible refine gate_callee (f:=126) rfl ?_);refine goesL_ (some 26) rfl rfl Try.func126 (by kernel_rfl) rfl #[.int .u8 (bt a0 x20_2)] rfl (by (try simp only [List.map_toArray,List.map_cons,List.map_nil]);first|done|rfl|(simp only [List.length_drop,List.length_take];rfl)) ?_;(with_reducible refine (impl_isLetter.calls (bt a0 x20_2) false _ A13.out).mono ?_);rintro e w' ⟨rfl,⟨nd,rfl⟩⟩;refine ⟨_,rfl,?_⟩;have p15 : 0 ≤ (x20_2 : Int):=of_decide_eq_true (by first|(with_reducible assumption)|assumption);have q15 : x20_2 < (a0.size : Int):=of_decide_eq_true (by first|(with_reducible assumption)|assumption);have hx15:=bt_at a0 x20_2;have bl15:=(bt_range a0 x20_2).1;have bh15:=(bt_range a0 x20_2).2;replace p15:=eq_true p15;replace q15:=eq_true q15;have p17 : 0 ≤ (x20_2 : Int):=of_decide_eq_true (by first|(with_reducible assumption)|assumption);have q17 : x20_2 < (a0.size : Int):=of_decide_eq_true (by first|(with_reducible assumption)|assumption);have hx17:=bt_at a0 x20_2;have bl17:=(bt_range a0 x20_2).1;have bh17:=(bt_range a0 x20_2).2;replace p17:=eq_true p17;replace q17:=eq_true q17))
            go_ret
            exact ⟨by first|rfl|(simp;done)|(simp [*];done),by repeat (first|exact Drawn0.refl _|apply Drawn0.step)⟩
           ·
            rw [if_neg c18] at H
            have c18b0 : decide (57 < (bt a0 x20_2)) = false:=decide_eq_false c18
            clear c18
            have H':=Aside0.mk H
            clear H
            have p12 : 0 ≤ (x20_2 : Int):=of_decide_eq_true (by first|(with_reducible assumption)|assumption)
            have q12 : x20_2 < (a0.size : Int):=of_decide_eq_true (by first|(with_reducible assumption)|assumption)
            have hx12:=bt_at a0 x20_2
            have bl12:=(bt_range a0 x20_2).1
            have bh12:=(bt_range a0 x20_2).2
            replace p12:=eq_true p12
            replace q12:=eq_true q12
            go_wp2_with (first|((with_reducible refine gate_callee (f:=126) rfl ?_);refine goesL_ (some 26) rfl rfl Try.func126 (by kernel_rfl) rfl #[.int .u8 (bt a0 x20_2)] rfl (by (try simp only [List.map_toArray,List.map_cons,List.map_nil]);first|done|rfl|(simp only [List.length_drop,List.length_take];rfl)) ?_;(with_reducible refine (impl_isLetter.calls (bt a0 x20_2) false _ A13.out).mono ?_);rintro e w' ⟨rfl,⟨nd,rfl⟩⟩;refine ⟨_,rfl,?_⟩;have p15 : 0 ≤ (x20_2 : Int):=of_decide_eq_true (by first|(with_reducible assumption)|assumption);have q15 : x20_2 < (a0.size : Int):=of_decide_eq_true (by first|(with_reducible assumption)|assumption);have hx15:=bt_at a0 x20_2;have bl15:=(bt_range a0 x20_2).1;have bh15:=(bt_range a0 x20_2).2;replace p15:=eq_true p15;replace q15:=eq_true q15;have p17 : 0 ≤ (x20_2 : Int):=of_decide_eq_true (by first|(with_reducible assumption)|assumption);have q17 : x20_2 < (a0.size : Int):=of_decide_eq_true (by first|(with_reducible assumption)|assumption);have hx17:=bt_at a0 x20_2;have bl17:=(bt_range a0 x20_2).1;have bh17:=(bt_range a0 x20_2).2;replace p17:=eq_true p17;replace q17:=eq_true q17))
            go_roundg k2
            case measure => have:=HJ1.out;have:=HK2.out;omega
            case rel => exact ⟨(wrap64 (x20_2 + 1)),(by first|rfl|(simp;done)|(simp [*];done)),H',⟨by have:=HJ1.out;have:=HK2.out;omega⟩,by repeat (first|exact Drawn0.refl _|apply Drawn0.step)⟩
        ·
         rw [if_neg c11] at H
         exact absurd H (by simp)
       ·
        rw [if_neg c10] at H
        exact absurd H (by simp)
      ·
       rw [if_neg c9] at H
       have c9b0 : decide (x20_2 < (a0.size : Int)) = false:=decide_eq_false c9
       clear c9
       obtain rfl:=Option.some.inj H
       go_wp2
       go_ret
       exact ⟨by first|rfl|(simp;done)|(simp [*];done),by repeat (first|exact Drawn0.refl _|apply Drawn0.step)⟩
def impl_isOpName.f (k : Nat) (a0 : ByteArray) : Option (Bool):=if (a0.size : Int) ≤ 12 then ((impl_NameOK.f k a0).bind fun t103 => (some t103)) else (some false)
set_option maxHeartbeats 8000000 in
set_option maxRecDepth 100000 in
theorem impl_isOpName.calls (k : Nat) (a0 : ByteArray) (r : Bool) (w : World) (h : impl_isOpName.f k a0 = some r) :
  Calls Try.prog 75 #[.string a0] w fun e w' => e = .returned (.bool r) ∧ Drawn0 w w':=by
 have H : (if (a0.size : Int) ≤ 12 then ((impl_NameOK.f k a0).bind fun t103 => (some t103)) else (some false)) = some r:=h
 clear h
 by_cases c2 : (a0.size : Int) ≤ 12
 ·
  rw [if_pos c2] at H
  have c2b0 : decide ((a0.size : Int) ≤ 12) = true:=decide_eq_true c2
  have c2b1 : decide (a0.size ≤ 12) = true:=decide_eq_true (by omega)
  clear c2
  replace H:=Option.bind_eq_some_iff.mp H
  obtain ⟨t103,A30,H⟩:=H
  replace H : (some t103) = some r:=H
  have A3:=Aside0.mk A30
  clear A30
  obtain rfl:=Option.some.inj H
  go_enter Try.func75,Try.ntmps75
  go_wp2_with (first|(go_at_call 104;(with_reducible refine (impl_NameOK.calls k a0 t103 _ A3.out).mono ?_);rintro e w' ⟨rfl,⟨nd,rfl⟩⟩))
  go_ret
  exact ⟨by first|rfl|(simp;done)|(simp [*];done),by repeat (first|exact Drawn0.refl _|apply Drawn0.step)⟩
 ·
  rw [if_neg c2] at H
  have c2b0 : decide ((a0.size : Int) ≤ 12) = false:=decide_eq_false c2
  have c2b1 : decide (a0.size ≤ 12) = false:=decide_eq_false (by omega)
  clear c2
  obtain rfl:=Option.some.inj H
  go_enter Try.func75,Try.ntmps75
  go_wp2
  go_ret
  exact ⟨by first|rfl|(simp;done)|(simp [*];done),by repeat (first|exact Drawn0.refl _|apply Drawn0.step)⟩
mutual
def impl_RequestOK.j0 : Nat → Int → Int → Bool → Int → Int → Int → Int → ByteArray → Option (Bool)
 | 0,_,_,_,_,_,_,_,_ => none
 | k + 1,x3,x4,x12,x105000,x105001,x105002,x105003,x105004 => if x12 = true then (impl_RequestOK.j1 k 1 1000 x105000 x105001 x105002 x105003 x105004) else (impl_RequestOK.j1 k x3 x4 x105000 x105001 x105002 x105003 x105004)
def impl_RequestOK.j1 : Nat → Int → Int → Int → Int → Int → Int → ByteArray → Option (Bool)
 | 0,_,_,_,_,_,_,_ => none
 | k + 1,x3,x4,x105000,x105001,x105002,x105003,x105004 => (impl_within.f x105000 0 255).bind fun t105 => (if t105 = true then ((impl_within.f x105001 1 65535).bind fun t106 => (if t106 = true then ((impl_within.f x105002 1 4).bind fun t107 => (if t107 = true then ((impl_within.f x105003 x3 x4).bind fun t108 => (if t108 = true then ((impl_isOpName.f k x105004).bind fun t109 => (some t109)) else (some false))) else (some false))) else (some false))) else (some false))
end
def impl_RequestOK.f (k : Nat) (a0_0 : Int) (a0_1 : Int) (a0_2 : Int) (a0_3 : Int) (a0_4 : ByteArray) : Option (Bool):=if a0_2 = 1 then (impl_RequestOK.j0 k 0 0 true a0_0 a0_1 a0_2 a0_3 a0_4) else (impl_RequestOK.j0 k 0 0 (a0_2 == 3) a0_0 a0_1 a0_2 a0_3 a0_4)
set_option maxHeartbeats 8000000 in
set_option maxRecDepth 100000 in
theorem impl_RequestOK.calls (k : Nat) (a0_0 : Int) (a0_1 : Int) (a0_2 : Int) (a0_3 : Int) (a0_4 : ByteArray) (r : Bool) (w : World) (h : impl_RequestOK.f k a0_0 a0_1 a0_2 a0_3 a0_4 = some r) :
  Calls Try.prog 89 #[.agg #[.int .i64 a0_0,.int .i64 a0_1,.int .i64 a0_2,.int .i64 a0_3,.string a0_4]] w fun e w' => e = .returned (.bool r) ∧ Below w.heap.size w w':=by
 have hu94:=Try.underlying94
 have HB:=Aside0.mk (Below.refl w.heap.size w)
 have H : (if a0_2 = 1 then (impl_RequestOK.j0 k 0 0 true a0_0 a0_1 a0_2 a0_3 a0_4) else (impl_RequestOK.j0 k 0 0 (a0_2 == 3) a0_0 a0_1 a0_2 a0_3 a0_4)) = some r:=h
 clear h
 have HC2:=Aside0.mk H
 clear H
 go_enter Try.func89,Try.ntmps89
 go_upto_region 2 with (first|((with_reducible refine gate_dst (N:=1) rfl ?_);refine box_event ?hg (N:=1) ?hd (cs:=#[.int .i64 a0_0,.int .i64 a0_1,.int .i64 a0_2,.int .i64 a0_3,.string a0_4]) (t:=94) ?hr ?_;(case hd => rfl);(case hg => rfl);(case hr => first|(go_simp;done)|(go_simp;rfl));intro gb104 hg w3 hbox hb;have n0_:=Aside0.mk (below_step (by repeat (first|(with_reducible first|exact HB.out|apply below_alloc|apply pw_below_drewN|apply below_drew1)|exact HB.out)) hb);have n1_:=Aside0.mk (hbox);have n2_:=Aside0.mk ((by rw [hg];exact (below_size (by repeat (first|(with_reducible first|exact HB.out|apply below_alloc|apply pw_below_drewN|apply below_drew1)|exact HB.out))) : w.heap.size ≤ gb104));have n3_:=Aside0.mk ((by rw [hg];exact (below_size (by repeat (first|(with_reducible first|exact HB.out|apply below_alloc|apply pw_below_drewN|apply below_drew1)|exact HB.out))) : w.heap.size ≤ gb104));clear HB;have HB:=n0_;have BK104:=n1_;have GW104:=n2_;have GE104:=n3_;clear n0_ n1_ n2_ n3_;clear hb hbox hg))
 (try simp only [Act.put,List.setIfInBounds_toArray,List.set_cons_zero,List.set_cons_succ])
 go_cut [12] (fun v12 wc => ∃ (kq : Nat) (x12_1 : Bool),v12 = .bool x12_1 ∧ Aside0 (impl_RequestOK.j0 kq 0 0 x12_1 a0_0 a0_1 a0_2 a0_3 a0_4 = some r) ∧ Aside0 (kq ≤ k) ∧ Aside0 (wc.heap[gb104]? = some (.cells #[.int .i64 a0_0,.int .i64 a0_1,.int .i64 a0_2,.int .i64 a0_3,.string a0_4] 94 (0,0))) ∧ Aside0 (Below w.heap.size w wc))
 case first =>
  have H:=HC2.out
  clear HC2
  by_cases c4 : a0_2 = 1
  ·
   rw [if_pos c4] at H
   have c4b0 : (a0_2 == 1) = true:=beq_iff_eq.mpr c4
   have c4b1 : (a0_2 != 1) = false:=bne_eq_false_iff_eq.mpr c4
   clear c4
   (first|rw [c4b0]|(simp only [i64_w,i32_w];rw [c4b0])|skip)
   have H':=Aside0.mk H
   clear H
   have hcz5_0 : w3.cell? ⟨gb104,0,none⟩ = some (.int .i64 a0_0):=(blk_cell BK104.out 0).trans rfl
   have hcz5_1 : w3.cell? ⟨gb104,1,none⟩ = some (.int .i64 a0_1):=(blk_cell BK104.out 1).trans rfl
   have hcz5_2 : w3.cell? ⟨gb104,2,none⟩ = some (.int .i64 a0_2):=(blk_cell BK104.out 2).trans rfl
   have hcz5_3 : w3.cell? ⟨gb104,3,none⟩ = some (.int .i64 a0_3):=(blk_cell BK104.out 3).trans rfl
   have hcz5_4 : w3.cell? ⟨gb104,4,none⟩ = some (.string a0_4):=(blk_cell BK104.out 4).trans rfl
   have hfz5_0:=blk_frozen BK104.out 0
   have hfz5_1:=blk_frozen BK104.out 1
   have hfz5_2:=blk_frozen BK104.out 2
   have hfz5_3:=blk_frozen BK104.out 3
   have hfz5_4:=blk_frozen BK104.out 4
   go_wp2
   go_meet
   case rel => exact ⟨_,(true),(by first|rfl|(simp;done)|(simp [*];done)),H',⟨by first|omega|exact Nat.le_refl _⟩,⟨by (with_reducible repeat (first|apply blk_drewN|apply blk_drew|apply blk_alloc));exact BK104.out⟩,⟨by repeat (first|(with_reducible first|exact HB.out|apply below_alloc|apply pw_below_drewN|apply below_drew1|refine below_set ?_ GE104.out)|exact HB.out)⟩⟩
  ·
   rw [if_neg c4] at H
   have c4b0 : (a0_2 == 1) = false:=beq_eq_false_iff_ne.mpr c4
   have c4b1 : (a0_2 != 1) = true:=bne_iff_ne.mpr c4
   (first|rw [c4b0]|(simp only [i64_w,i32_w];rw [c4b0])|skip)
   have H':=Aside0.mk H
   clear H
   have hcz6_0 : w3.cell? ⟨gb104,0,none⟩ = some (.int .i64 a0_0):=(blk_cell BK104.out 0).trans rfl
   have hcz6_1 : w3.cell? ⟨gb104,1,none⟩ = some (.int .i64 a0_1):=(blk_cell BK104.out 1).trans rfl
   have hcz6_2 : w3.cell? ⟨gb104,2,none⟩ = some (.int .i64 a0_2):=(blk_cell BK104.out 2).trans rfl
   have hcz6_3 : w3.cell? ⟨gb104,3,none⟩ = some (.int .i64 a0_3):=(blk_cell BK104.out 3).trans rfl
   have hcz6_4 : w3.cell? ⟨gb104,4,none⟩ = some (.string a0_4):=(blk_cell BK104.out 4).trans rfl
   have hfz6_0:=blk_frozen BK104.out 0
   have hfz6_1:=blk_frozen BK104.out 1
   have hfz6_2:=blk_frozen BK104.out 2
   have hfz6_3:=blk_frozen BK104.out 3
   have hfz6_4:=blk_frozen BK104.out 4
   go_wp2
   go_meet
   case rel => exact ⟨_,((a0_2 == 3)),(by first|rfl|(simp;done)|(simp [*];done)),H',⟨by first|omega|exact Nat.le_refl _⟩,⟨by (with_reducible repeat (first|apply blk_drewN|apply blk_drew|apply blk_alloc));exact BK104.out⟩,⟨by repeat (first|(with_reducible first|exact HB.out|apply below_alloc|apply pw_below_drewN|apply below_drew1|refine below_set ?_ GE104.out)|exact HB.out)⟩⟩
 case rest =>
  clear HC2
  try clear p2
  try clear c4
  try clear c4b0
  try clear c4b1
  try clear hcz5_0
  try clear hcz5_1
  try clear hcz5_2
  try clear hcz5_3
  try clear hcz5_4
  try clear hcz6_0
  try clear hcz6_1
  try clear hcz6_2
  try clear hcz6_3
  try clear hcz6_4
  try clear hfz5_0
  try clear hfz5_1
  try clear hfz5_2
  try clear hfz5_3
  try clear hfz5_4
  try clear hfz6_0
  try clear hfz6_1
  try clear hfz6_2
  try clear hfz6_3
  try clear hfz6_4
  obtain ⟨kq,x12_1,rfl,HA,HJ1,BK104,HB⟩:=hcut
  cases kq with
  | zero => exact absurd HA.out (by simp [impl_RequestOK.j0])
  | succ kj1 =>
   have H:=HA.out
   clear HA
   simp only [impl_RequestOK.j0] at H
   have HC7:=Aside0.mk H
   clear H
   go_upto_if 12 with (fail)
   go_cut [3,4] (fun v3 v4 wc => ∃ (kq : Nat) (x3_6 : Int) (x4_6 : Int),v3 = .int .i64 x3_6 ∧ v4 = .int .i64 x4_6 ∧ Aside0 (impl_RequestOK.j1 kq x3_6 x4_6 a0_0 a0_1 a0_2 a0_3 a0_4 = some r) ∧ Aside0 (kq ≤ kj1) ∧ Aside0 (wc.heap[gb104]? = some (.cells #[.int .i64 a0_0,.int .i64 a0_1,.int .i64 a0_2,.int .i64 a0_3,.string a0_4] 94 (0,0))) ∧ Aside0 (Below w.heap.size w wc))
   case first =>
    have H:=HC7.out
    clear HC7
    by_cases c8 : x12_1 = true
    ·
     subst c8
     have H1 : (impl_RequestOK.j1 kj1 1 1000 a0_0 a0_1 a0_2 a0_3 a0_4) = some r:=by rw [if_pos rfl] at H;exact H
     clear H
     have H:=H1
     clear H1
     have H':=Aside0.mk H
     clear H
     go_wp2
     go_meet
     case rel => exact ⟨_,(1),(1000),(by first|rfl|(simp;done)|(simp [*];done)),(by first|rfl|(simp;done)|(simp [*];done)),H',⟨by have:=HJ1.out;first|omega|exact Nat.le_refl _⟩,⟨by (with_reducible repeat (first|apply blk_drewN|apply blk_drew|apply blk_alloc));exact BK104.out⟩,⟨by repeat (first|(with_reducible first|exact HB.out|apply below_alloc|apply pw_below_drewN|apply below_drew1|refine below_set ?_ GE104.out)|exact HB.out)⟩⟩
    ·
     replace c8:=Bool.eq_false_iff.mpr c8
     subst c8
     have H1 : (impl_RequestOK.j1 kj1 0 0 a0_0 a0_1 a0_2 a0_3 a0_4) = some r:=by rw [if_neg (show ¬ (false = true) by decide)] at H;exact H
     clear H
     have H:=H1
     clear H1
     have H':=Aside0.mk H
     clear H
     go_wp2
     go_meet
     case rel => exact ⟨_,(0),(0),(by first|rfl|(simp;done)|(simp [*];done)),(by first|rfl|(simp;done)|(simp [*];done)),H',⟨by have:=HJ1.out;first|omega|exact Nat.le_refl _⟩,⟨by (with_reducible repeat (first|apply blk_drewN|apply blk_drew|apply blk_alloc));exact BK104.out⟩,⟨by repeat (first|(with_reducible first|exact HB.out|apply below_alloc|apply pw_below_drewN|apply below_drew1|refine below_set ?_ GE104.out)|exact HB.out)⟩⟩
   case rest =>
    clear HC7
    try clear p2
    try clear c4
    try clear c4b0
    try clear c4b1
    try clear c8
    try clear hcz5_0
    try clear hcz5_1
    try clear hcz5_2
    try clear hcz5_3
    try clear hcz5_4
    try clear hcz6_0
    try clear hcz6_1
    try clear hcz6_2
    try clear hcz6_3
    try clear hcz6_4
    try clear hfz5_0
    try clear hfz5_1
    try clear hfz5_2
    try clear hfz5_3
    try clear hfz5_4
    try clear hfz6_0
    try clear hfz6_1
    try clear hfz6_2
    try clear hfz6_3
    try clear hfz6_4
    try clear p2
    obtain ⟨kq,x3_6,x4_6,rfl,rfl,HA,HJ6,BK104,HB⟩:=hcut
    cases kq with
    | zero => exact absurd HA.out (by simp [impl_RequestOK.j1])
    | succ kj6 =>
     have H:=HA.out
     clear HA
     simp only [impl_RequestOK.j1] at H
     replace H:=Option.bind_eq_some_iff.mp H
     obtain ⟨t105,A90,H⟩:=H
     replace H : (if t105 = true then ((impl_within.f a0_1 1 65535).bind fun t106 => (if t106 = true then ((impl_within.f a0_2 1 4).bind fun t107 => (if t107 = true then ((impl_within.f a0_3 x3_6 x4_6).bind fun t108 => (if t108 = true then ((impl_isOpName.f kj6 a0_4).bind fun t109 => (some t109)) else (some false))) else (some false))) else (some false))) else (some false)) = some r:=H
     have A9:=Aside0.mk A90
     clear A90
     by_cases c10 : t105 = true
     ·
      subst c10
      have H1 : ((impl_within.f a0_1 1 65535).bind fun t106 => (if t106 = true then ((impl_within.f a0_2 1 4).bind fun t107 => (if t107 = true then ((impl_within.f a0_3 x3_6 x4_6).bind fun t108 => (if t108 = true then ((impl_isOpName.f kj6 a0_4).bind fun t109 => (some t109)) else (some false))) else (some false))) else (some false))) = some r:=by rw [if_pos rfl] at H;exact H
      clear H
      have H:=H1
      clear H1
      replace H:=Option.bind_eq_some_iff.mp H
      obtain ⟨t106,A110,H⟩:=H
      replace H : (if t106 = true then ((impl_within.f a0_2 1 4).bind fun t107 => (if t107 = true then ((impl_within.f a0_3 x3_6 x4_6).bind fun t108 => (if t108 = true then ((impl_isOpName.f kj6 a0_4).bind fun t109 => (some t109)) else (some false))) else (some false))) else (some false)) = some r:=H
      have A11:=Aside0.mk A110
      clear A110
      by_cases c12 : t106 = true
      ·
       subst c12
       have H1 : ((impl_within.f a0_2 1 4).bind fun t107 => (if t107 = true then ((impl_within.f a0_3 x3_6 x4_6).bind fun t108 => (if t108 = true then ((impl_isOpName.f kj6 a0_4).bind fun t109 => (some t109)) else (some false))) else (some false))) = some r:=by rw [if_pos rfl] at H;exact H
       clear H
       have H:=H1
       clear H1
       replace H:=Option.bind_eq_some_iff.mp H
       obtain ⟨t107,A130,H⟩:=H
       replace H : (if t107 = true then ((impl_within.f a0_3 x3_6 x4_6).bind fun t108 => (if t108 = true then ((impl_isOpName.f kj6 a0_4).bind fun t109 => (some t109)) else (some false))) else (some false)) = some r:=H
       have A13:=Aside0.mk A130
       clear A130
       by_cases c14 : t107 = true
       ·
        subst c14
        have H1 : ((impl_within.f a0_3 x3_6 x4_6).bind fun t108 => (if t108 = true then ((impl_isOpName.f kj6 a0_4).bind fun t109 => (some t109)) else (some false))) = some r:=by rw [if_pos rfl] at H;exact H
        clear H
        have H:=H1
        clear H1
        replace H:=Option.bind_eq_some_iff.mp H
        obtain ⟨t108,A150,H⟩:=H
        replace H : (if t108 = true then ((impl_isOpName.f kj6 a0_4).bind fun t109 => (some t109)) else (some false)) = some r:=H
        have A15:=Aside0.mk A150
        clear A150
        by_cases c16 : t108 = true
        ·
         subst c16
         have H1 : ((impl_isOpName.f kj6 a0_4).bind fun t109 => (some t109)) = some r:=by rw [if_pos rfl] at H;exact H
         clear H
         have H:=H1
         clear H1
         replace H:=Option.bind_eq_some_iff.mp H
         obtain ⟨t109,A170,H⟩:=H
         replace H : (some t109) = some r:=H
         have A17:=Aside0.mk A170
         clear A170
         obtain rfl:=Option.some.inj H
         have hcz18_0 : wc.cell? ⟨gb104,0,none⟩ = some (.int .i64 a0_0):=(blk_cell BK104.out 0).trans rfl
         have hcz18_1 : wc.cell? ⟨gb104,1,none⟩ = some (.int .i64 a0_1):=(blk_cell BK104.out 1).trans rfl
         have hcz18_2 : wc.cell? ⟨gb104,2,none⟩ = some (.int .i64 a0_2):=(blk_cell BK104.out 2).trans rfl
         have hcz18_3 : wc.cell? ⟨gb104,3,none⟩ = some (.int .i64 a0_3):=(blk_cell BK104.out 3).trans rfl
         have hcz18_4 : wc.cell? ⟨gb104,4,none⟩ = some (.string a0_4):=(blk_cell BK104.out 4).trans rfl
         have hfz18_0:=blk_frozen BK104.out 0
         have hfz18_1:=blk_frozen BK104.out 1
         have hfz18_2:=blk_frozen BK104.out 2
         have hfz18_3:=blk_frozen BK104.out 3
         have hfz18_4:=blk_frozen BK104.out 4
         go_wp2_with (first|((with_reducible refine gate_callee (f:=46) rfl ?_);refine goesL_ (some 15) rfl rfl Try.func46 (by kernel_rfl) rfl #[.int .i64 a0_0,.int .i64 0,.int .i64 255] rfl (by (try simp only [List.map_toArray,List.map_cons,List.map_nil]);first|done|rfl|(simp only [List.length_drop,List.length_take];rfl)) ?_;(with_reducible refine (impl_within.calls a0_0 0 255 true _ A9.out).mono ?_);rintro e w' ⟨rfl,⟨nd,rfl⟩⟩;refine ⟨_,rfl,?_⟩)|(go_at_call 46;(with_reducible refine (impl_within.calls a0_1 1 65535 true _ A11.out).mono ?_);rintro e w' ⟨rfl,⟨nd,rfl⟩⟩)|(go_at_call 46;(with_reducible refine (impl_within.calls a0_2 1 4 true _ A13.out).mono ?_);rintro e w' ⟨rfl,⟨nd,rfl⟩⟩)|(go_at_call 46;(with_reducible refine (impl_within.calls a0_3 x3_6 x4_6 true _ A15.out).mono ?_);rintro e w' ⟨rfl,⟨nd,rfl⟩⟩)|(go_at_call 75;(with_reducible refine (impl_isOpName.calls kj6 a0_4 t109 _ A17.out).mono ?_);rintro e w' ⟨rfl,⟨nd,rfl⟩⟩))
         go_ret
         exact ⟨by first|rfl|(simp [errW_none,errW_some] <;> rfl)|(simp [*,errW_none,errW_some] <;> rfl),by repeat (first|(with_reducible first|exact HB.out|apply below_alloc|apply pw_below_drewN|apply below_drew1|refine below_set ?_ GE104.out)|exact HB.out)⟩
        ·
         replace c16:=Bool.eq_false_iff.mpr c16
         subst c16
         have H1 : (some false) = some r:=by rw [if_neg (show ¬ (false = true) by decide)] at H;exact H
         clear H
         have H:=H1
         clear H1
         obtain rfl:=Option.some.inj H
         have hcz19_0 : wc.cell? ⟨gb104,0,none⟩ = some (.int .i64 a0_0):=(blk_cell BK104.out 0).trans rfl
         have hcz19_1 : wc.cell? ⟨gb104,1,none⟩ = some (.int .i64 a0_1):=(blk_cell BK104.out 1).trans rfl
         have hcz19_2 : wc.cell? ⟨gb104,2,none⟩ = some (.int .i64 a0_2):=(blk_cell BK104.out 2).trans rfl
         have hcz19_3 : wc.cell? ⟨gb104,3,none⟩ = some (.int .i64 a0_3):=(blk_cell BK104.out 3).trans rfl
         have hcz19_4 : wc.cell? ⟨gb104,4,none⟩ = some (.string a0_4):=(blk_cell BK104.out 4).trans rfl
         have hfz19_0:=blk_frozen BK104.out 0
         have hfz19_1:=blk_frozen BK104.out 1
         have hfz19_2:=blk_frozen BK104.out 2
         have hfz19_3:=blk_frozen BK104.out 3
         have hfz19_4:=blk_frozen BK104.out 4
         go_wp2_with (first|((with_reducible refine gate_callee (f:=46) rfl ?_);refine goesL_ (some 15) rfl rfl Try.func46 (by kernel_rfl) rfl #[.int .i64 a0_0,.int .i64 0,.int .i64 255] rfl (by (try simp only [List.map_toArray,List.map_cons,List.map_nil]);first|done|rfl|(simp only [List.length_drop,List.length_take];rfl)) ?_;(with_reducible refine (impl_within.calls a0_0 0 255 true _ A9.out).mono ?_);rintro e w' ⟨rfl,⟨nd,rfl⟩⟩;refine ⟨_,rfl,?_⟩)|(go_at_call 46;(with_reducible refine (impl_within.calls a0_1 1 65535 true _ A11.out).mono ?_);rintro e w' ⟨rfl,⟨nd,rfl⟩⟩)|(go_at_call 46;(with_reducible refine (impl_within.calls a0_2 1 4 true _ A13.out).mono ?_);rintro e w' ⟨rfl,⟨nd,rfl⟩⟩)|(go_at_call 46;(with_reducible refine (impl_within.calls a0_3 x3_6 x4_6 false _ A15.out).mono ?_);rintro e w' ⟨rfl,⟨nd,rfl⟩⟩))
         go_ret
         exact ⟨by first|rfl|(simp [errW_none,errW_some] <;> rfl)|(simp [*,errW_none,errW_some] <;> rfl),by repeat (first|(with_reducible first|exact HB.out|apply below_alloc|apply pw_below_drewN|apply below_drew1|refine below_set ?_ GE104.out)|exact HB.out)⟩
       ·
        replace c14:=Bool.eq_false_iff.mpr c14
        subst c14
        have H1 : (some false) = some r:=by rw [if_neg (show ¬ (false = true) by decide)] at H;exact H
        clear H
        have H:=H1
        clear H1
        obtain rfl:=Option.some.inj H
        have hcz20_0 : wc.cell? ⟨gb104,0,none⟩ = some (.int .i64 a0_0):=(blk_cell BK104.out 0).trans rfl
        have hcz20_1 : wc.cell? ⟨gb104,1,none⟩ = some (.int .i64 a0_1):=(blk_cell BK104.out 1).trans rfl
        have hcz20_2 : wc.cell? ⟨gb104,2,none⟩ = some (.int .i64 a0_2):=(blk_cell BK104.out 2).trans rfl
        have hcz20_3 : wc.cell? ⟨gb104,3,none⟩ = some (.int .i64 a0_3):=(blk_cell BK104.out 3).trans rfl
        have hcz20_4 : wc.cell? ⟨gb104,4,none⟩ = some (.string a0_4):=(blk_cell BK104.out 4).trans rfl
        have hfz20_0:=blk_frozen BK104.out 0
        have hfz20_1:=blk_frozen BK104.out 1
        have hfz20_2:=blk_frozen BK104.out 2
        have hfz20_3:=blk_frozen BK104.out 3
        have hfz20_4:=blk_frozen BK104.out 4
        go_wp2_with (first|((with_reducible refine gate_callee (f:=46) rfl ?_);refine goesL_ (some 15) rfl rfl Try.func46 (by kernel_rfl) rfl #[.int .i64 a0_0,.int .i64 0,.int .i64 255] rfl (by (try simp only [List.map_toArray,List.map_cons,List.map_nil]);first|done|rfl|(simp only [List.length_drop,List.length_take];rfl)) ?_;(with_reducible refine (impl_within.calls a0_0 0 255 true _ A9.out).mono ?_);rintro e w' ⟨rfl,⟨nd,rfl⟩⟩;refine ⟨_,rfl,?_⟩)|(go_at_call 46;(with_reducible refine (impl_within.calls a0_1 1 65535 true _ A11.out).mono ?_);rintro e w' ⟨rfl,⟨nd,rfl⟩⟩)|(go_at_call 46;(with_reducible refine (impl_within.calls a0_2 1 4 false _ A13.out).mono ?_);rintro e w' ⟨rfl,⟨nd,rfl⟩⟩))
        go_ret
        exact ⟨by first|rfl|(simp [errW_none,errW_some] <;> rfl)|(simp [*,errW_none,errW_some] <;> rfl),by repeat (first|(with_reducible first|exact HB.out|apply below_alloc|apply pw_below_drewN|apply below_drew1|refine below_set ?_ GE104.out)|exact HB.out)⟩
      ·
       replace c12:=Bool.eq_false_iff.mpr c12
       subst c12
       have H1 : (some false) = some r:=by rw [if_neg (show ¬ (false = true) by decide)] at H;exact H
       clear H
       have H:=H1
       clear H1
       obtain rfl:=Option.some.inj H
       have hcz21_0 : wc.cell? ⟨gb104,0,none⟩ = some (.int .i64 a0_0):=(blk_cell BK104.out 0).trans rfl
       have hcz21_1 : wc.cell? ⟨gb104,1,none⟩ = some (.int .i64 a0_1):=(blk_cell BK104.out 1).trans rfl
       have hcz21_2 : wc.cell? ⟨gb104,2,none⟩ = some (.int .i64 a0_2):=(blk_cell BK104.out 2).trans rfl
       have hcz21_3 : wc.cell? ⟨gb104,3,none⟩ = some (.int .i64 a0_3):=(blk_cell BK104.out 3).trans rfl
       have hcz21_4 : wc.cell? ⟨gb104,4,none⟩ = some (.string a0_4):=(blk_cell BK104.out 4).trans rfl
       have hfz21_0:=blk_frozen BK104.out 0
       have hfz21_1:=blk_frozen BK104.out 1
       have hfz21_2:=blk_frozen BK104.out 2
       have hfz21_3:=blk_frozen BK104.out 3
       have hfz21_4:=blk_frozen BK104.out 4
       go_wp2_with (first|((with_reducible refine gate_callee (f:=46) rfl ?_);refine goesL_ (some 15) rfl rfl Try.func46 (by kernel_rfl) rfl #[.int .i64 a0_0,.int .i64 0,.int .i64 255] rfl (by (try simp only [List.map_toArray,List.map_cons,List.map_nil]);first|done|rfl|(simp only [List.length_drop,List.length_take];rfl)) ?_;(with_reducible refine (impl_within.calls a0_0 0 255 true _ A9.out).mono ?_);rintro e w' ⟨rfl,⟨nd,rfl⟩⟩;refine ⟨_,rfl,?_⟩)|(go_at_call 46;(with_reducible refine (impl_within.calls a0_1 1 65535 false _ A11.out).mono ?_);rintro e w' ⟨rfl,⟨nd,rfl⟩⟩))
       go_ret
       exact ⟨by first|rfl|(simp [errW_none,errW_some] <;> rfl)|(simp [*,errW_none,errW_some] <;> rfl),by repeat (first|(with_reducible first|exact HB.out|apply below_alloc|apply pw_below_drewN|apply below_drew1|refine below_set ?_ GE104.out)|exact HB.out)⟩
     ·
      replace c10:=Bool.eq_false_iff.mpr c10
      subst c10
      have H1 : (some false) = some r:=by rw [if_neg (show ¬ (false = true) by decide)] at H;exact H
      clear H
      have H:=H1
      clear H1
      obtain rfl:=Option.some.inj H
      have hcz22_0 : wc.cell? ⟨gb104,0,none⟩ = some (.int .i64 a0_0):=(blk_cell BK104.out 0).trans rfl
      have hcz22_1 : wc.cell? ⟨gb104,1,none⟩ = some (.int .i64 a0_1):=(blk_cell BK104.out 1).trans rfl
      have hcz22_2 : wc.cell? ⟨gb104,2,none⟩ = some (.int .i64 a0_2):=(blk_cell BK104.out 2).trans rfl
      have hcz22_3 : wc.cell? ⟨gb104,3,none⟩ = some (.int .i64 a0_3):=(blk_cell BK104.out 3).trans rfl
      have hcz22_4 : wc.cell? ⟨gb104,4,none⟩ = some (.string a0_4):=(blk_cell BK104.out 4).trans rfl
      have hfz22_0:=blk_frozen BK104.out 0
      have hfz22_1:=blk_frozen BK104.out 1
      have hfz22_2:=blk_frozen BK104.out 2
      have hfz22_3:=blk_frozen BK104.out 3
      have hfz22_4:=blk_frozen BK104.out 4
      go_wp2_with (first|((with_reducible refine gate_callee (f:=46) rfl ?_);refine goesL_ (some 15) rfl rfl Try.func46 (by kernel_rfl) rfl #[.int .i64 a0_0,.int .i64 0,.int .i64 255] rfl (by (try simp only [List.map_toArray,List.map_cons,List.map_nil]);first|done|rfl|(simp only [List.length_drop,List.length_take];rfl)) ?_;(with_reducible refine (impl_within.calls a0_0 0 255 false _ A9.out).mono ?_);rintro e w' ⟨rfl,⟨nd,rfl⟩⟩;refine ⟨_,rfl,?_⟩))
      go_ret
      exact ⟨by first|rfl|(simp [errW_none,errW_some] <;> rfl)|(simp [*,errW_none,errW_some] <;> rfl),by repeat (first|(with_reducible first|exact HB.out|apply below_alloc|apply pw_below_drewN|apply below_drew1|refine below_set ?_ GE104.out)|exact HB.out)⟩
end Go.Proofs.Ytjkanhjapddhnaa.PRok
