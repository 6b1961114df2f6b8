-- squeezed
import Derived.Test.YtjkanhjapddhnaaProg
import Derived.Below
import Derived.Deep.Draws
import Derived.Deep.AppendLies
import Derived.Maps.AppendAt
import Derived.OwnWalk
import Derived.Laws.BytesArg
import Derived.Laws.MakeOwn
import Derived.Laws.OwnMore
import Derived.Deep.OwnRows
import Derived.Tactics
import Derived.Lib.ConvBytes
import Derived.Laws.Slices
import Derived.WalkKit
import Derived.KernelRfl
import Derived.RowKit3
import Derived.Deep.LoopGhost
import Derived.Deep.QuietTactic
import Derived.BigQuiet
import Derived.WideLaws
import Derived.Deep.DeepCutAuto
import Derived.Deep.CutBlock
import Derived.Deep.RegionHeld3
import Derived.Laws.Rows
import Derived.Lib.AppendStr
import Derived.ArgAppend
import Derived.Laws.IdiomCopy
import Derived.OrdersHeld
import Derived.Laws.BitsLemmas
import Derived.RowKit
import Derived.Test.YtjkanhjapddhnaaVTab
import Derived.Test.YtjkanhjapddhnaaVWords
import Derived.Test.YtjkanhjapddhnaaVLast
import Derived.Test.YtjkanhjapddhnaaVApart
import Derived.Test.YtjkanhjapddhnaaVMore
import Derived.Laws.StructEq
import Derived.Test.YtjkanhjapddhnaaVRepsOne
import Derived.Test.YtjkanhjapddhnaaPFnExactRunRequestsx6
import Derived.Test.YtjkanhjapddhnaaPRokx1
namespace Go.Proofs.Ytjkanhjapddhnaa.PTim
open Go.RowKit Go.Proofs.YtjkanhjapddhnaaV.PrintWords Go.Proofs.YtjkanhjapddhnaaV.PrintLast Go.Proofs.YtjkanhjapddhnaaV.PrintMore
attribute [local go_sem] max2_int min2_int max_two min_two max_three min_three max_four min_four u8_wm u32_wm   -- for this text's walks alone
set_option linter.unusedVariables false
set_option linter.unusedSimpArgs false
theorem isEmpty_ne_ (l : List UInt8) : (!l.isEmpty) = (l != []):=by cases l <;> rfl
theorem isEmpty_eq_ (l : List UInt8) : l.isEmpty = (l == []):=by cases l <;> rfl
def errW : Option Int → Value
 | none => .nilIface
 | some c => .iface 0 (.int .i64 c)
theorem errW_none : errW none = .nilIface:=rfl
theorem errW_some (c : Int) : errW (some c) = .iface 0 (.int .i64 c):=rfl
end Go.Proofs.Ytjkanhjapddhnaa.PTim
namespace Go.Proofs.Ytjkanhjapddhnaa.PTim
open Go.RowKit Go.Proofs.YtjkanhjapddhnaaV.PrintWords Go.Proofs.YtjkanhjapddhnaaV.PrintLast Go.Proofs.YtjkanhjapddhnaaV.PrintMore
attribute [local go_sem] max2_int min2_int max_two min_two max_three min_three max_four min_four u8_wm u32_wm   -- for this text's walks alone
set_option linter.unusedVariables false
set_option linter.unusedSimpArgs false
def impl_within.f (a0 : Int) (a1 : Int) (a2 : Int) : Option (Bool):=if a0 ≥ a1 then (some (decide (a0 ≤ a2))) else (some false)
set_option maxHeartbeats 8000000 in
set_option maxRecDepth 100000 in
theorem impl_within.calls (a0 : Int) (a1 : Int) (a2 : Int) (r : Bool) (w : World) (h : impl_within.f a0 a1 a2 = some r) :
  Calls Try.prog 46 #[.int .i64 a0,.int .i64 a1,.int .i64 a2] w fun e w' => e = .returned (.bool r) ∧ Drawn0 w w':=by
 have H : (if a0 ≥ a1 then (some (decide (a0 ≤ a2))) else (some false)) = some r:=h
 clear h
 by_cases c4 : a0 ≥ a1
 ·
  rw [if_pos c4] at H
  have c4b0 : decide (a1 ≤ a0) = true:=decide_eq_true c4
  clear c4
  obtain rfl:=Option.some.inj H
  go_enter Try.func46,Try.ntmps46
  go_wp2
  go_ret
  exact ⟨by first|rfl|(simp;done)|(simp [*];done)|(refine congrArg Ending.returned (congrArg Value.bool ?_);first|exact isEmpty_ne_ _|exact isEmpty_eq_ _|exact (isEmpty_ne_ _).symm|exact (isEmpty_eq_ _).symm|(simp only [isEmpty_ne_] <;> rfl)|(simp only [← isEmpty_ne_] <;> rfl)|(simp only [← isEmpty_ne_] <;> simp [*])),by repeat (first|exact Drawn0.refl _|apply Drawn0.step)⟩
 ·
  rw [if_neg c4] at H
  have c4b0 : decide (a1 ≤ a0) = false:=decide_eq_false c4
  clear c4
  obtain rfl:=Option.some.inj H
  go_enter Try.func46,Try.ntmps46
  go_wp2
  go_ret
  exact ⟨by first|rfl|(simp;done)|(simp [*];done)|(refine congrArg Ending.returned (congrArg Value.bool ?_);first|exact isEmpty_ne_ _|exact isEmpty_eq_ _|exact (isEmpty_ne_ _).symm|exact (isEmpty_eq_ _).symm|(simp only [isEmpty_ne_] <;> rfl)|(simp only [← isEmpty_ne_] <;> rfl)|(simp only [← isEmpty_ne_] <;> simp [*])),by repeat (first|exact Drawn0.refl _|apply Drawn0.step)⟩
def impl_isTime.f (a0 : Int) : Option (Bool):=(impl_within.f a0 0 1000000000).bind fun t101 => (some t101)
set_option maxHeartbeats 8000000 in
set_option maxRecDepth 100000 in
theorem impl_isTime.calls (a0 : Int) (r : Bool) (w : World) (h : impl_isTime.f a0 = some r) :
  Calls Try.prog 92 #[.int .i64 a0] w fun e w' => e = .returned (.bool r) ∧ Drawn0 w w':=by
 have H : ((impl_within.f a0 0 1000000000).bind fun t101 => (some t101)) = some r:=h
 clear h
 replace H:=Option.bind_eq_some_iff.mp H
 obtain ⟨t101,A20,H⟩:=H
 replace H : (some t101) = some r:=H
 have A2:=Aside0.mk A20
 clear A20
 obtain rfl:=Option.some.inj H
 go_enter Try.func92,Try.ntmps92
 go_wp2_with (first|((with_reducible refine gate_callee (f:=46) rfl ?_);refine goesL_ (some 4) rfl rfl Try.func46 (by kernel_rfl) rfl #[.int .i64 a0,.int .i64 0,.int .i64 1000000000] rfl (by (try simp only [List.map_toArray,List.map_cons,List.map_nil]);first|done|rfl|(simp only [List.length_drop,List.length_take];rfl)) ?_;(with_reducible refine (impl_within.calls a0 0 1000000000 t101 _ A2.out).mono ?_);rintro e w' ⟨rfl,⟨nd,rfl⟩⟩;refine ⟨_,rfl,?_⟩))
 go_ret
 exact ⟨by first|rfl|(simp;done)|(simp [*];done)|(refine congrArg Ending.returned (congrArg Value.bool ?_);first|exact isEmpty_ne_ _|exact isEmpty_eq_ _|exact (isEmpty_ne_ _).symm|exact (isEmpty_eq_ _).symm|(simp only [isEmpty_ne_] <;> rfl)|(simp only [← isEmpty_ne_] <;> rfl)|(simp only [← isEmpty_ne_] <;> simp [*])),by repeat (first|exact Drawn0.refl _|apply Drawn0.step)⟩
end Go.Proofs.Ytjkanhjapddhnaa.PTim
namespace Go.Proofs.Ytjkanhjapddhnaa.Rp
open Go.RowKit Go.Proofs.YtjkanhjapddhnaaV.PrintWords Go.Proofs.YtjkanhjapddhnaaV.PrintMore Go.Proofs.Ytjkanhjapddhnaa.PFnExactRunRequests Go.Proofs.Ytjkanhjapddhnaa.PRok
set_option linter.unusedVariables false
set_option linter.unusedSimpArgs false
theorem wrap_id {x : Int} (h1 : -9223372036854775808 ≤ x) (h2 : x ≤ 9223372036854775807) : wrap64 x = x:=by
 unfold wrap64
 omega
theorem nat_pos_succ {k d : Nat} (h : d < k) : ∃ m,k = m + 1:=⟨k - 1,by omega⟩
theorem toList_inj {a b : ByteArray} (h : a.toList = b.toList) : a = b:=by
 rw [ByteArray.toList_eq,ByteArray.toList_eq] at h
 exact Go.WideShapes.bytes_inj h
def letterP (c : Int) : Bool:=(decide (97 ≤ c) && decide (c ≤ 122)) || (decide (65 ≤ c) && decide (c ≤ 90)) || decide (c = 95)
def digitP (c : Int) : Bool:=decide (48 ≤ c) && decide (c ≤ 57)
def restP (s : ByteArray) : Nat → Int → Bool
 | 0,_ => true
 | d + 1,i => (letterP (bt s i) || digitP (bt s i)) && restP s d (i + 1)
def nameP (s : ByteArray) : Bool:=decide (1 ≤ s.size) && decide (s.size ≤ 40) && letterP (bt s 0) && restP s (s.size - 1) 1
theorem isLetter_tells (c : Int) : impl_isLetter.f c = some (letterP c):=by
 unfold impl_isLetter.f letterP
 by_cases h1 : c ≥ 97
 ·
  by_cases h2 : c ≤ 122
  ·
   simp [h1,h2]
  ·
   have h3 : ¬ c ≤ 90:=by omega
   simp [h1,h2,h3,show c ≥ 65 by omega]
   try rw [Bool.eq_iff_iff]
   try simp
 ·
  by_cases h3 : c ≥ 65
  ·
   by_cases h4 : c ≤ 90
   ·
    simp [h1,h3,h4]
   ·
    simp [h1,h3,h4];try rw [Bool.eq_iff_iff];simp
  ·
   simp [h1,h3];try rw [Bool.eq_iff_iff];simp
theorem implName_l0 (s : ByteArray) (hs : s.size ≤ 140737488351232) (d : Nat) : ∀ (k : Nat) (i : Int),0 ≤ i → (s.size : Int) - i = d → d < k → impl_NameOK.l0 k s s.size i = some (restP s d i):=by
 induction d with
 | zero =>
  intro k i h0 hd hk
  obtain ⟨k,rfl⟩:=nat_pos_succ hk
  simp only [impl_NameOK.l0,restP]
  rw [if_neg (by omega)]
 | succ d ih =>
  intro k i h0 hd hk
  obtain ⟨k,rfl⟩:=nat_pos_succ hk
  simp only [impl_NameOK.l0,restP]
  rw [if_pos (by omega),if_pos h0,if_pos (by omega),isLetter_tells,wrap_id (by omega) (by omega),ih k (i + 1) (by omega) (by omega) (by omega)]
  simp only [Option.bind_some]
  cases hl : letterP (bt s i)
  ·
   unfold digitP
   by_cases h1 : bt s i < 48
   ·
    simp [h1,show ¬ 48 ≤ bt s i by omega]
   ·
    by_cases h2 : bt s i > 57
    ·
     simp [h1,h2,show ¬ bt s i ≤ 57 by omega]
    ·
     simp [h1,h2,show bt s i ≤ 57 by omega,show 48 ≤ bt s i by omega]
  ·
   simp
theorem implName_tells (s : ByteArray) (hs : s.size ≤ 140737488351232) (k : Nat) (hk : s.size + 2 ≤ k) : impl_NameOK.f k s = some (nameP s):=by
 obtain ⟨k,rfl⟩ : ∃ m,k = m + 1:=⟨k - 1,by omega⟩
 unfold impl_NameOK.f nameP
 simp only [impl_NameOK.j0]
 by_cases h1 : (s.size : Int) < 1
 ·
  rw [if_pos h1];simp;intro h;omega
 by_cases h2 : (s.size : Int) > 40
 ·
  rw [if_neg h1,if_pos h2];simp;intro _ h;omega
 rw [if_neg h1,if_neg h2,if_pos (by omega),isLetter_tells]
 simp only [Option.bind_some]
 rw [decide_eq_true (show 1 ≤ s.size by omega),decide_eq_true (show s.size ≤ 40 by omega),implName_l0 s hs s.size k 0 (by omega) (by omega) (by omega)]
 obtain ⟨d,hd⟩ : ∃ d,s.size = d + 1:=⟨s.size - 1,by omega⟩
 rw [hd]
 cases hl : letterP (bt s 0) <;> simp [restP,hl]
theorem within_tells (n low high : Int) : impl_within.f n low high = some (decide (low ≤ n) && decide (n ≤ high)):=by
 unfold impl_within.f
 by_cases h : n ≥ low
 ·
  rw [if_pos h,decide_eq_true h];rfl
 ·
  rw [if_neg h,decide_eq_false h];rfl
def requestP (client stamp kind lease : Int) (name : ByteArray) : Bool :=
 (decide (0 ≤ client) && decide (client ≤ 255)) && ((decide (1 ≤ stamp) && decide (stamp ≤ 65535)) && ((decide (1 ≤ kind) && decide (kind ≤ 4)) && ((if kind = 1 ∨ kind = 3 then decide (1 ≤ lease) && decide (lease ≤ 1000) else decide (lease = 0)) && (decide (name.size ≤ 12) && nameP name))))
theorem isOpName_tells (s : ByteArray) (hs : s.size ≤ 140737488351232) (k : Nat) (hk : s.size + 2 ≤ k) : impl_isOpName.f k s = some (decide (s.size ≤ 12) && nameP s):=by
 unfold impl_isOpName.f
 by_cases h : (s.size : Int) ≤ 12
 ·
  rw [if_pos h,implName_tells s hs k hk,decide_eq_true (show s.size ≤ 12 by omega)];simp
 ·
  rw [if_neg h,decide_eq_false (show ¬ s.size ≤ 12 by omega)];simp
theorem implRequestOK_tells (a b c d : Int) (s : ByteArray) (hs : s.size ≤ 140737488351232) (k : Nat) (hk : s.size + 4 ≤ k) : impl_RequestOK.f k a b c d s = some (requestP a b c d s):=by
 obtain ⟨k,rfl⟩ : ∃ m,k = m + 2:=⟨k - 2,by omega⟩
 unfold impl_RequestOK.f requestP
 simp only [impl_RequestOK.j0,impl_RequestOK.j1,within_tells,isOpName_tells s hs k (by omega),Option.bind_some]
 generalize (decide (0 ≤ a) && decide (a ≤ 255)) = b1
 generalize (decide (1 ≤ b) && decide (b ≤ 65535)) = b2
 generalize (decide (s.size ≤ 12) && nameP s) = b5
 have e0 : (decide (0 ≤ d) && decide (d ≤ 0)) = decide (d = 0):=by rw [Bool.eq_iff_iff];simp;omega
 rw [e0]
 generalize (decide (1 ≤ d) && decide (d ≤ 1000)) = b4
 generalize decide (d = 0) = b4'
 by_cases h1 : c = 1
 ·
  subst h1
  cases b1 <;> cases b2 <;> cases b4 <;> cases b5 <;> rfl
 by_cases h3 : c = 3
 ·
  subst h3
  cases b1 <;> cases b2 <;> cases b4 <;> cases b5 <;> rfl
 have e1 : (c == 3) = false:=beq_eq_false_iff_ne.mpr h3
 have e2 : ¬ (c = 1 ∨ c = 3):=by omega
 rw [if_neg h1,if_neg e2,e1]
 generalize (decide (1 ≤ c) && decide (c ≤ 4)) = b3
 cases b1 <;> cases b2 <;> cases b3 <;> cases b4' <;> cases b5 <;> rfl
theorem specLetter_tells (c : Int) : spec_l00Letter.f c = some (letterP c):=by
 unfold spec_l00Letter.f letterP
 by_cases h1 : c ≥ 97
 ·
  by_cases h2 : c ≤ 122
  ·
   simp [h1,h2]
  ·
   have h3 : ¬ c ≤ 90:=by omega
   simp [h1,h2,h3,show c ≥ 65 by omega]
   try rw [Bool.eq_iff_iff]
   try simp
 ·
  by_cases h3 : c ≥ 65
  ·
   by_cases h4 : c ≤ 90
   ·
    simp [h1,h3,h4]
   ·
    simp [h1,h3,h4];try rw [Bool.eq_iff_iff];simp
  ·
   simp [h1,h3];try rw [Bool.eq_iff_iff];simp
theorem specDigit_tells (c : Int) : spec_l00Digit.f c = some (digitP c):=by
 unfold spec_l00Digit.f digitP
 by_cases h : c ≥ 48
 ·
  rw [if_pos h,decide_eq_true h];rfl
 ·
  rw [if_neg h,decide_eq_false h];rfl
theorem specWord_l0 (s : ByteArray) (hs : s.size ≤ 140737488351232) (d : Nat) : ∀ (k : Nat) (i : Int),0 ≤ i → (s.size : Int) - i = d → d < k → spec_l00Word.l0 k s i = some (restP s d i):=by
 induction d with
 | zero =>
  intro k i h0 hd hk
  obtain ⟨k,rfl⟩:=nat_pos_succ hk
  simp only [spec_l00Word.l0,restP]
  rw [if_neg (by omega)]
 | succ d ih =>
  intro k i h0 hd hk
  obtain ⟨k,rfl⟩:=nat_pos_succ hk
  simp only [spec_l00Word.l0,restP]
  rw [if_pos (by omega),if_pos h0,specLetter_tells,specDigit_tells,wrap_id (by omega) (by omega),ih k (i + 1) (by omega) (by omega) (by omega)]
  simp only [Option.bind_some]
  cases hl : letterP (bt s i) <;> cases hg : digitP (bt s i) <;> simp
theorem specWord_tells (s : ByteArray) (hs : s.size ≤ 140737488351232) (k : Nat) (hk : s.size + 2 ≤ k) : spec_l00Word.f k s = some (nameP s):=by
 obtain ⟨k,rfl⟩ : ∃ m,k = m + 1:=⟨k - 1,by omega⟩
 unfold spec_l00Word.f nameP
 simp only [spec_l00Word.j0]
 by_cases h1 : (s.size : Int) < 1
 ·
  rw [if_pos h1];simp;intro h;omega
 by_cases h2 : (s.size : Int) > 40
 ·
  rw [if_neg h1,if_pos h2];simp;intro _ h;omega
 rw [if_neg h1,if_neg h2,if_pos (by omega),specLetter_tells]
 simp only [Option.bind_some]
 rw [decide_eq_true (show 1 ≤ s.size by omega),decide_eq_true (show s.size ≤ 40 by omega),specWord_l0 s hs (s.size - 1) k 1 (by omega) (by omega) (by omega)]
 cases hl : letterP (bt s 0) <;> simp
theorem specName_tells (s : ByteArray) (hs : s.size ≤ 140737488351232) (k : Nat) (hk : s.size + 2 ≤ k) : spec_NameOK.f k s = some (nameP s):=by
 unfold spec_NameOK.f
 rw [specWord_tells s hs k hk]
 rfl
theorem specIn_tells (n low high : Int) : spec_l01In.f n low high = some (decide (low ≤ n) && decide (n ≤ high)):=by
 unfold spec_l01In.f
 by_cases h : n ≥ low
 ·
  rw [if_pos h,decide_eq_true h];rfl
 ·
  rw [if_neg h,decide_eq_false h];rfl
theorem specText_tells (s : ByteArray) (hs : s.size ≤ 140737488351232) (n : Int) (hn : n = 12) (k : Nat) (hk : s.size + 2 ≤ k) : spec_l02Text.f k s n = some (decide (s.size ≤ 12) && nameP s):=by
 subst hn
 unfold spec_l02Text.f
 rw [specIn_tells,specName_tells s hs k hk]
 simp only [Option.bind_some]
 by_cases h : 1 ≤ s.size
 ·
  by_cases h2 : s.size ≤ 12
  ·
   rw [decide_eq_true (show (1 : Int) ≤ s.size by omega),decide_eq_true (show (s.size : Int) ≤ 12 by omega),decide_eq_true h2];simp
  ·
   rw [decide_eq_true (show (1 : Int) ≤ s.size by omega),decide_eq_false (show ¬ (s.size : Int) ≤ 12 by omega),decide_eq_false h2];simp
 ·
  have : nameP s = false:=by unfold nameP;rw [decide_eq_false h];simp
  rw [decide_eq_false (show ¬ (1 : Int) ≤ s.size by omega),this];simp
theorem specRequestOK_tells (a b c d : Int) (s : ByteArray) (hs : s.size ≤ 140737488351232) (k : Nat) (hk : s.size + 4 ≤ k) : spec_RequestOK.f k a b c d s = some (requestP a b c d s):=by
 unfold spec_RequestOK.f requestP
 simp only [specIn_tells,specText_tells s hs 12 rfl k (by omega),Option.bind_some]
 generalize (decide (0 ≤ a) && decide (a ≤ 255)) = b1
 generalize (decide (1 ≤ b) && decide (b ≤ 65535)) = b2
 generalize (decide (s.size ≤ 12) && nameP s) = b5
 by_cases hd1 : 1 ≤ d
 ·
  have x1 : decide (1 ≤ d) = true:=decide_eq_true hd1
  have x2 : decide (0 ≤ d) = true:=decide_eq_true (by omega)
  have x3 : decide (d > 0) = true:=decide_eq_true (by omega)
  have x4 : decide (d = 0) = false:=decide_eq_false (by omega)
  rw [x1,x2,x3,x4,Bool.true_and]
  generalize decide (d ≤ 1000) = b4
  by_cases h1 : c = 1
  ·
   subst h1
   cases b1 <;> cases b2 <;> cases b4 <;> cases b5 <;> rfl
  by_cases h3 : c = 3
  ·
   subst h3
   cases b1 <;> cases b2 <;> cases b4 <;> cases b5 <;> rfl
  have e1 : (c == 3) = false:=beq_eq_false_iff_ne.mpr h3
  have e2 : ¬ (c = 1 ∨ c = 3):=by omega
  rw [if_neg h1,if_neg e2,e1]
  generalize (decide (1 ≤ c) && decide (c ≤ 4)) = b3
  cases b1 <;> cases b2 <;> cases b3 <;> cases b4 <;> cases b5 <;> rfl
 ·
  have x1 : decide (1 ≤ d) = false:=decide_eq_false hd1
  have x3 : decide (d > 0) = false:=decide_eq_false (by omega)
  have x4 : (decide (0 ≤ d) && decide (d ≤ 1000)) = decide (d = 0):=by rw [Bool.eq_iff_iff];simp;omega
  rw [x1,x3,x4,Bool.false_and]
  generalize decide (d = 0) = b4
  by_cases h1 : c = 1
  ·
   subst h1
   cases b1 <;> cases b2 <;> cases b4 <;> cases b5 <;> rfl
  by_cases h3 : c = 3
  ·
   subst h3
   cases b1 <;> cases b2 <;> cases b4 <;> cases b5 <;> rfl
  have e1 : (c == 3) = false:=beq_eq_false_iff_ne.mpr h3
  have e2 : ¬ (c = 1 ∨ c = 3):=by omega
  rw [if_neg h1,if_neg e2,e1]
  generalize (decide (1 ≤ c) && decide (c ≤ 4)) = b3
  cases b1 <;> cases b2 <;> cases b3 <;> cases b4 <;> cases b5 <;> rfl
end Go.Proofs.Ytjkanhjapddhnaa.Rp
