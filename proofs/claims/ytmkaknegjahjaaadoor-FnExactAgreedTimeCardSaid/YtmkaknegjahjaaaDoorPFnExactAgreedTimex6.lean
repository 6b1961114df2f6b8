-- laid by this session's program myprint.py over the kit's printer
-- aliased
import Derived.Test.YtmkaknegjahjaaaDoorPFnExactAgreedTimex0
import Derived.Test.YtmkaknegjahjaaaDoorPFnExactAgreedTimex1
import Derived.Test.YtmkaknegjahjaaaDoorPFnExactAgreedTimex4
import Derived.Test.YtmkaknegjahjaaaDoorPFnExactAgreedTimex5
namespace Go.Proofs.YtmkaknegjahjaaaDoor.PFnExactAgreedTime
open Go.RowKit Go.Proofs.YtmkaknegjahjaaaDoorV.PrintWords Go.Proofs.YtmkaknegjahjaaaDoorV.PrintLast Go.Proofs.YtmkaknegjahjaaaDoorV.PrintMore
attribute [local go_sem] max2_int min2_int max_two min_two max_three min_three max_four min_four u8_wm u32_wm   -- for this text's walks alone
set_option linter.unusedVariables false
set_option linter.unusedSimpArgs false

/-! ### impl_ReadingsTime: function 41 -/
theorem qa6 : type_of% @below_alloc := @below_alloc
theorem qb6 : type_of% @pw_below_drewN := @pw_below_drewN
theorem qc6 : type_of% @below_drew1 := @below_drew1
theorem qd6 : type_of% @Aside0.mk := @Aside0.mk
def impl_ReadingsTime.f (k : Nat) (a0 : Int) (l1 : List (S72)) : Option (Int × Int) := (impl_Reading.f l1).bind fun t218 => (if t218 = true then (some (0, 2)) else ((impl_areNodes.f a0).bind fun t219 => (if t219 = true then ((impl_readingsTime.f k a0 l1).bind fun bt220 => (if bt220.2 = true then (some (bt220.1, 0)) else (some (0, 12)))) else (some (0, 4)))))
theorem impl_ReadingsTime.mono : ∀ a0 a1 k, LeO (impl_ReadingsTime.f k a0 a1) (impl_ReadingsTime.f (k + 1) a0 a1) := by
  intro a0 a1 k
  unfold impl_ReadingsTime.f
  repeat' first
      | (with_reducible exact impl_readingsTime.mono _ _ _)
      | (with_reducible exact LeO.refl _)
      | (with_reducible exact LeO.none _)
      | (with_reducible refine LeO.ite ?_ ?_)
      | (with_reducible refine LeO.bind ?_ (fun _ => ?_))
      | exact impl_readingsTime.mono _ _ _
      | exact LeO.none _
      | refine LeO.ite ?_ ?_
      | refine LeO.bind ?_ (fun _ => ?_)
set_option maxHeartbeats 8000000 in
set_option maxRecDepth 100000 in
theorem impl_ReadingsTime.calls (k : Nat) (a0 : Int) (A1 : Option Addr) (c1 : Nat) (l1 : List (S72)) (r1 : Int) (r2 : Int) (w : World) (hr1 : Kd.C k72 w A1 l1.length l1) (hc1 : l1.length ≤ c1) (hG_ : Go.Proofs.YtmkaknegjahjaaaDoor.Sha.GlobA w) (h : impl_ReadingsTime.f k a0 l1 = some (r1, r2)) :
    Calls Tryd.prog 41 #[.int .i64 a0, .slice A1 l1.length c1] w fun e w' => e = .returned (.tuple #[.int .i64 r1, .int .i64 r2]) ∧ Below w.heap.size w w' := by
  have HR1 := qd6 hr1
  have HC1 := qd6 hc1
  clear hr1 hc1
  have HB := qd6 (Below.refl w.heap.size w)
  have H : ((impl_Reading.f l1).bind fun t218 => (if t218 = true then (some (0, 2)) else ((impl_areNodes.f a0).bind fun t219 => (if t219 = true then ((impl_readingsTime.f k a0 l1).bind fun bt220 => (if bt220.2 = true then (some (bt220.1, 0)) else (some (0, 12)))) else (some (0, 4)))))) = some (r1, r2) := h
  clear h
  replace H := Option.bind_eq_some_iff.mp H
  obtain ⟨t218, A30, H⟩ := H
  replace H : (if t218 = true then (some (0, 2)) else ((impl_areNodes.f a0).bind fun t219 => (if t219 = true then ((impl_readingsTime.f k a0 l1).bind fun bt220 => (if bt220.2 = true then (some (bt220.1, 0)) else (some (0, 12)))) else (some (0, 4))))) = some (r1, r2) := H
  have A3 := qd6 A30
  clear A30
  by_cases c4 : t218 = true
  · subst c4
    have H1 : (some (0, 2)) = some (r1, r2) := by rw [if_pos rfl] at H; exact H
    clear H
    have H := H1
    clear H1
    simp only [Option.some.injEq, Prod.mk.injEq] at H
    obtain ⟨rfl, rfl⟩ := H
    go_enter Tryd.func41, Tryd.ntmps41
    go_wp2_with (first | ((with_reducible refine gate_callee (f := 92) rfl ?_); refine goesL_ (some 9) rfl rfl Tryd.func92 (by kernel_rfl) rfl #[.slice A1 l1.length c1] rfl (by (try simp only [List.map_toArray, List.map_cons, List.map_nil]); first | done | rfl | (simp only [List.length_drop, List.length_take]; rfl)) ?_; (with_reducible refine (impl_Reading.calls _ _ l1 true _ ?side1 ?side2 A3.out).mono ?_); (case side1 => repeat (first | exact HR1.out | (with_reducible refine Kd.C_alloc ?_ _) | (with_reducible refine Kd.C_drewN ?_ _) | (with_reducible refine Kd.C_drew ?_))); (case side2 => exact HC1.out); rintro e w' ⟨rfl, ⟨nd, rfl⟩⟩; refine ⟨_, rfl, ?_⟩))
    go_ret2
    exact ⟨by first | rfl | (simp [errW_none, errW_some] <;> rfl) | (simp [*, errW_none, errW_some] <;> rfl), by repeat (first | (with_reducible first | exact HB.out | apply qa6 | apply qb6 | apply qc6) | exact HB.out)⟩
  · replace c4 := Bool.eq_false_iff.mpr c4
    subst c4
    have H1 : ((impl_areNodes.f a0).bind fun t219 => (if t219 = true then ((impl_readingsTime.f k a0 l1).bind fun bt220 => (if bt220.2 = true then (some (bt220.1, 0)) else (some (0, 12)))) else (some (0, 4)))) = some (r1, r2) := by rw [if_neg (show ¬ (false = true) by decide)] at H; exact H
    clear H
    have H := H1
    clear H1
    replace H := Option.bind_eq_some_iff.mp H
    obtain ⟨t219, A50, H⟩ := H
    replace H : (if t219 = true then ((impl_readingsTime.f k a0 l1).bind fun bt220 => (if bt220.2 = true then (some (bt220.1, 0)) else (some (0, 12)))) else (some (0, 4))) = some (r1, r2) := H
    have A5 := qd6 A50
    clear A50
    by_cases c6 : t219 = true
    · subst c6
      have H1 : ((impl_readingsTime.f k a0 l1).bind fun bt220 => (if bt220.2 = true then (some (bt220.1, 0)) else (some (0, 12)))) = some (r1, r2) := by rw [if_pos rfl] at H; exact H
      clear H
      have H := H1
      clear H1
      replace H := Option.bind_eq_some_iff.mp H
      obtain ⟨⟨t220, t221⟩, A70, H⟩ := H
      replace H : (if t221 = true then (some (t220, 0)) else (some (0, 12))) = some (r1, r2) := H
      have A7 := qd6 A70
      clear A70
      by_cases c8 : t221 = true
      · subst c8
        have H1 : (some (t220, 0)) = some (r1, r2) := by rw [if_pos rfl] at H; exact H
        clear H
        have H := H1
        clear H1
        simp only [Option.some.injEq, Prod.mk.injEq] at H
        obtain ⟨rfl, rfl⟩ := H
        go_enter Tryd.func41, Tryd.ntmps41
        go_wp2_with (first | ((with_reducible refine gate_callee (f := 92) rfl ?_); refine goesL_ (some 9) rfl rfl Tryd.func92 (by kernel_rfl) rfl #[.slice A1 l1.length c1] rfl (by (try simp only [List.map_toArray, List.map_cons, List.map_nil]); first | done | rfl | (simp only [List.length_drop, List.length_take]; rfl)) ?_; (with_reducible refine (impl_Reading.calls _ _ l1 false _ ?side1 ?side2 A3.out).mono ?_); (case side1 => repeat (first | exact HR1.out | (with_reducible refine Kd.C_alloc ?_ _) | (with_reducible refine Kd.C_drewN ?_ _) | (with_reducible refine Kd.C_drew ?_))); (case side2 => exact HC1.out); rintro e w' ⟨rfl, ⟨nd, rfl⟩⟩; refine ⟨_, rfl, ?_⟩) | ((with_reducible refine gate_callee (f := 93) rfl ?_); refine goesL_ (some 11) rfl rfl Tryd.func93 (by kernel_rfl) rfl #[.int .i64 a0] rfl (by (try simp only [List.map_toArray, List.map_cons, List.map_nil]); first | done | rfl | (simp only [List.length_drop, List.length_take]; rfl)) ?_; (with_reducible refine (impl_areNodes.calls a0 true _ A5.out).mono ?_); rintro e w' ⟨rfl, ⟨nd, rfl⟩⟩; refine ⟨_, rfl, ?_⟩) | ((with_reducible refine gate_callee (f := 94) rfl ?_); refine goesL_ (some 16) rfl rfl Tryd.func94 (by kernel_rfl) rfl #[.int .i64 a0, .slice A1 l1.length c1] rfl (by (try simp only [List.map_toArray, List.map_cons, List.map_nil]); first | done | rfl | (simp only [List.length_drop, List.length_take]; rfl)) ?_; (with_reducible refine (impl_readingsTime.calls k a0 _ _ l1 t220 true _ ?side1 ?side2 ?side3 A7.out).mono ?_); (case side1 => repeat (first | exact HR1.out | (with_reducible refine Kd.C_alloc ?_ _) | (with_reducible refine Kd.C_drewN ?_ _) | (with_reducible refine Kd.C_drew ?_))); (case side2 => exact HC1.out); (case side3 => exact Go.Proofs.YtmkaknegjahjaaaDoor.Sha.glob_below hG_ (by repeat (first | (with_reducible first | exact HB.out | apply qa6 | apply qb6 | apply qc6) | exact HB.out))); rintro e w9 ⟨rfl, hb⟩; refine ⟨_, rfl, ?_⟩; have n0_ := qd6 (below_step (by repeat (first | (with_reducible first | exact HB.out | apply qa6 | apply qb6 | apply qc6) | exact HB.out)) hb); clear HB; have HB := n0_; clear n0_; (try clear hb); (try clear hb2); (try clear hk); (try clear hi)))
        go_ret2
        exact ⟨by first | rfl | (simp [errW_none, errW_some] <;> rfl) | (simp [*, errW_none, errW_some] <;> rfl), by repeat (first | (with_reducible first | exact HB.out | apply qa6 | apply qb6 | apply qc6) | exact HB.out)⟩
      · replace c8 := Bool.eq_false_iff.mpr c8
        subst c8
        have H1 : (some (0, 12)) = some (r1, r2) := by rw [if_neg (show ¬ (false = true) by decide)] at H; exact H
        clear H
        have H := H1
        clear H1
        simp only [Option.some.injEq, Prod.mk.injEq] at H
        obtain ⟨rfl, rfl⟩ := H
        go_enter Tryd.func41, Tryd.ntmps41
        go_wp2_with (first | ((with_reducible refine gate_callee (f := 92) rfl ?_); refine goesL_ (some 9) rfl rfl Tryd.func92 (by kernel_rfl) rfl #[.slice A1 l1.length c1] rfl (by (try simp only [List.map_toArray, List.map_cons, List.map_nil]); first | done | rfl | (simp only [List.length_drop, List.length_take]; rfl)) ?_; (with_reducible refine (impl_Reading.calls _ _ l1 false _ ?side1 ?side2 A3.out).mono ?_); (case side1 => repeat (first | exact HR1.out | (with_reducible refine Kd.C_alloc ?_ _) | (with_reducible refine Kd.C_drewN ?_ _) | (with_reducible refine Kd.C_drew ?_))); (case side2 => exact HC1.out); rintro e w' ⟨rfl, ⟨nd, rfl⟩⟩; refine ⟨_, rfl, ?_⟩) | ((with_reducible refine gate_callee (f := 93) rfl ?_); refine goesL_ (some 11) rfl rfl Tryd.func93 (by kernel_rfl) rfl #[.int .i64 a0] rfl (by (try simp only [List.map_toArray, List.map_cons, List.map_nil]); first | done | rfl | (simp only [List.length_drop, List.length_take]; rfl)) ?_; (with_reducible refine (impl_areNodes.calls a0 true _ A5.out).mono ?_); rintro e w' ⟨rfl, ⟨nd, rfl⟩⟩; refine ⟨_, rfl, ?_⟩) | ((with_reducible refine gate_callee (f := 94) rfl ?_); refine goesL_ (some 16) rfl rfl Tryd.func94 (by kernel_rfl) rfl #[.int .i64 a0, .slice A1 l1.length c1] rfl (by (try simp only [List.map_toArray, List.map_cons, List.map_nil]); first | done | rfl | (simp only [List.length_drop, List.length_take]; rfl)) ?_; (with_reducible refine (impl_readingsTime.calls k a0 _ _ l1 t220 false _ ?side1 ?side2 ?side3 A7.out).mono ?_); (case side1 => repeat (first | exact HR1.out | (with_reducible refine Kd.C_alloc ?_ _) | (with_reducible refine Kd.C_drewN ?_ _) | (with_reducible refine Kd.C_drew ?_))); (case side2 => exact HC1.out); (case side3 => exact Go.Proofs.YtmkaknegjahjaaaDoor.Sha.glob_below hG_ (by repeat (first | (with_reducible first | exact HB.out | apply qa6 | apply qb6 | apply qc6) | exact HB.out))); rintro e w10 ⟨rfl, hb⟩; refine ⟨_, rfl, ?_⟩; have n0_ := qd6 (below_step (by repeat (first | (with_reducible first | exact HB.out | apply qa6 | apply qb6 | apply qc6) | exact HB.out)) hb); clear HB; have HB := n0_; clear n0_; (try clear hb); (try clear hb2); (try clear hk); (try clear hi)))
        go_ret2
        exact ⟨by first | rfl | (simp [errW_none, errW_some] <;> rfl) | (simp [*, errW_none, errW_some] <;> rfl), by repeat (first | (with_reducible first | exact HB.out | apply qa6 | apply qb6 | apply qc6) | exact HB.out)⟩
    · replace c6 := Bool.eq_false_iff.mpr c6
      subst c6
      have H1 : (some (0, 4)) = some (r1, r2) := by rw [if_neg (show ¬ (false = true) by decide)] at H; exact H
      clear H
      have H := H1
      clear H1
      simp only [Option.some.injEq, Prod.mk.injEq] at H
      obtain ⟨rfl, rfl⟩ := H
      go_enter Tryd.func41, Tryd.ntmps41
      go_wp2_with (first | ((with_reducible refine gate_callee (f := 92) rfl ?_); refine goesL_ (some 9) rfl rfl Tryd.func92 (by kernel_rfl) rfl #[.slice A1 l1.length c1] rfl (by (try simp only [List.map_toArray, List.map_cons, List.map_nil]); first | done | rfl | (simp only [List.length_drop, List.length_take]; rfl)) ?_; (with_reducible refine (impl_Reading.calls _ _ l1 false _ ?side1 ?side2 A3.out).mono ?_); (case side1 => repeat (first | exact HR1.out | (with_reducible refine Kd.C_alloc ?_ _) | (with_reducible refine Kd.C_drewN ?_ _) | (with_reducible refine Kd.C_drew ?_))); (case side2 => exact HC1.out); rintro e w' ⟨rfl, ⟨nd, rfl⟩⟩; refine ⟨_, rfl, ?_⟩) | ((with_reducible refine gate_callee (f := 93) rfl ?_); refine goesL_ (some 11) rfl rfl Tryd.func93 (by kernel_rfl) rfl #[.int .i64 a0] rfl (by (try simp only [List.map_toArray, List.map_cons, List.map_nil]); first | done | rfl | (simp only [List.length_drop, List.length_take]; rfl)) ?_; (with_reducible refine (impl_areNodes.calls a0 false _ A5.out).mono ?_); rintro e w' ⟨rfl, ⟨nd, rfl⟩⟩; refine ⟨_, rfl, ?_⟩))
      go_ret2
      exact ⟨by first | rfl | (simp [errW_none, errW_some] <;> rfl) | (simp [*, errW_none, errW_some] <;> rfl), by repeat (first | (with_reducible first | exact HB.out | apply qa6 | apply qb6 | apply qc6) | exact HB.out)⟩

/-! ### impl_AgreedTime: function 44 -/
def impl_AgreedTime.f (k : Nat) (a0 : Int) (a1 : Int) (l2 : List (S72)) : Option (Int × Int) := (impl_ReadingsTime.f k a1 l2).bind fun bt222 => (if bt222.2 = 0 then (some (mx bt222.1 a0, 0)) else (some (0, bt222.2)))
theorem impl_AgreedTime.mono : ∀ a0 a1 a2 k, LeO (impl_AgreedTime.f k a0 a1 a2) (impl_AgreedTime.f (k + 1) a0 a1 a2) := by
  intro a0 a1 a2 k
  unfold impl_AgreedTime.f
  repeat' first
      | (with_reducible exact impl_ReadingsTime.mono _ _ _)
      | (with_reducible exact LeO.refl _)
      | (with_reducible exact LeO.none _)
      | (with_reducible refine LeO.ite ?_ ?_)
      | (with_reducible refine LeO.bind ?_ (fun _ => ?_))
      | exact impl_ReadingsTime.mono _ _ _
      | exact LeO.none _
      | refine LeO.ite ?_ ?_
      | refine LeO.bind ?_ (fun _ => ?_)
set_option maxHeartbeats 8000000 in
set_option maxRecDepth 100000 in
theorem impl_AgreedTime.calls (k : Nat) (a0 : Int) (a1 : Int) (A2 : Option Addr) (c2 : Nat) (l2 : List (S72)) (r1 : Int) (r2 : Int) (w : World) (hr2 : Kd.C k72 w A2 l2.length l2) (hc2 : l2.length ≤ c2) (hG_ : Go.Proofs.YtmkaknegjahjaaaDoor.Sha.GlobA w) (h : impl_AgreedTime.f k a0 a1 l2 = some (r1, r2)) :
    Calls Tryd.prog 44 #[.int .i64 a0, .int .i64 a1, .slice A2 l2.length c2] w fun e w' => e = .returned (.tuple #[.int .i64 r1, .int .i64 r2]) ∧ Below w.heap.size w w' := by
  have HR2 := qd6 hr2
  have HC2 := qd6 hc2
  clear hr2 hc2
  have HB := qd6 (Below.refl w.heap.size w)
  have H : ((impl_ReadingsTime.f k a1 l2).bind fun bt222 => (if bt222.2 = 0 then (some (mx bt222.1 a0, 0)) else (some (0, bt222.2)))) = some (r1, r2) := h
  clear h
  replace H := Option.bind_eq_some_iff.mp H
  obtain ⟨⟨t222, t223⟩, A40, H⟩ := H
  replace H : (if t223 = 0 then (some (mx t222 a0, 0)) else (some (0, t223))) = some (r1, r2) := H
  have A4 := qd6 A40
  clear A40
  by_cases c5 : t223 = 0
  · rw [if_pos c5] at H
    have c5b0 : (t223 == 0) = true := beq_iff_eq.mpr c5
    have c5b1 : (t223 != 0) = false := bne_eq_false_iff_eq.mpr c5
    clear c5
    obtain ⟨ji6, hji6⟩ : ∃ j_ : Int, (mx t222 a0) = j_ := ⟨_, rfl⟩
    replace H : (some (ji6, 0)) = some (r1, r2) := by first | (rw [hji6] at H; exact H) | (simp only [hji6] at H ⊢; exact H)
    (try rw [hji6] at A4)
    have hji6_ : (if t222 < a0 then a0 else t222) = ji6 := hji6
    simp only [Option.some.injEq, Prod.mk.injEq] at H
    obtain ⟨rfl, rfl⟩ := H
    go_enter Tryd.func44, Tryd.ntmps44
    go_wp2_with (first | ((with_reducible refine gate_callee (f := 41) rfl ?_); refine goesL_ (some 13) rfl rfl Tryd.func41 (by kernel_rfl) rfl #[.int .i64 a1, .slice A2 l2.length c2] rfl (by (try simp only [List.map_toArray, List.map_cons, List.map_nil]); first | done | rfl | (simp only [List.length_drop, List.length_take]; rfl)) ?_; (with_reducible refine (impl_ReadingsTime.calls k a1 _ _ l2 t222 t223 _ ?side1 ?side2 ?side3 A4.out).mono ?_); (case side1 => repeat (first | exact HR2.out | (with_reducible refine Kd.C_alloc ?_ _) | (with_reducible refine Kd.C_drewN ?_ _) | (with_reducible refine Kd.C_drew ?_))); (case side2 => exact HC2.out); (case side3 => exact Go.Proofs.YtmkaknegjahjaaaDoor.Sha.glob_below hG_ (by repeat (first | (with_reducible first | exact HB.out | apply qa6 | apply qb6 | apply qc6) | exact HB.out))); rintro e w7 ⟨rfl, hb⟩; refine ⟨_, rfl, ?_⟩; have n0_ := qd6 (below_step (by repeat (first | (with_reducible first | exact HB.out | apply qa6 | apply qb6 | apply qc6) | exact HB.out)) hb); clear HB; have HB := n0_; clear n0_; (try clear hb); (try clear hb2); (try clear hk); (try clear hi)))
    go_ret2
    exact ⟨by first | rfl | (simp [errW_none, errW_some] <;> rfl) | (simp only [← hji6]; first | rfl | (simp [errW_none, errW_some] <;> rfl)) | (simp [*, errW_none, errW_some] <;> rfl), by repeat (first | (with_reducible first | exact HB.out | apply qa6 | apply qb6 | apply qc6) | exact HB.out)⟩
  · rw [if_neg c5] at H
    have c5b0 : (t223 == 0) = false := beq_eq_false_iff_ne.mpr c5
    have c5b1 : (t223 != 0) = true := bne_iff_ne.mpr c5
    simp only [Option.some.injEq, Prod.mk.injEq] at H
    obtain ⟨rfl, rfl⟩ := H
    go_enter Tryd.func44, Tryd.ntmps44
    go_wp2_with (first | ((with_reducible refine gate_callee (f := 41) rfl ?_); refine goesL_ (some 13) rfl rfl Tryd.func41 (by kernel_rfl) rfl #[.int .i64 a1, .slice A2 l2.length c2] rfl (by (try simp only [List.map_toArray, List.map_cons, List.map_nil]); first | done | rfl | (simp only [List.length_drop, List.length_take]; rfl)) ?_; (with_reducible refine (impl_ReadingsTime.calls k a1 _ _ l2 t222 t223 _ ?side1 ?side2 ?side3 A4.out).mono ?_); (case side1 => repeat (first | exact HR2.out | (with_reducible refine Kd.C_alloc ?_ _) | (with_reducible refine Kd.C_drewN ?_ _) | (with_reducible refine Kd.C_drew ?_))); (case side2 => exact HC2.out); (case side3 => exact Go.Proofs.YtmkaknegjahjaaaDoor.Sha.glob_below hG_ (by repeat (first | (with_reducible first | exact HB.out | apply qa6 | apply qb6 | apply qc6) | exact HB.out))); rintro e w8 ⟨rfl, hb⟩; refine ⟨_, rfl, ?_⟩; have n0_ := qd6 (below_step (by repeat (first | (with_reducible first | exact HB.out | apply qa6 | apply qb6 | apply qc6) | exact HB.out)) hb); clear HB; have HB := n0_; clear n0_; (try clear hb); (try clear hb2); (try clear hk); (try clear hi)))
    go_ret2
    exact ⟨by first | rfl | (simp [errW_none, errW_some] <;> rfl) | (simp [*, errW_none, errW_some] <;> rfl), by repeat (first | (with_reducible first | exact HB.out | apply qa6 | apply qb6 | apply qc6) | exact HB.out)⟩

/-! ### laws_FnExactAgreedTime: function 8 -/
def laws_FnExactAgreedTime.j0 : Nat → List (S104) → List (S72) → Bool → Option (Bool)
  | 0, _, _, _ => none
  | k + 1, x2, x10, x42 => if x42 = true then (some false) else ((laws_toReadingS.f k x2).bind fun t235 => ((laws_eqReadingS.f k x10 t235).bind fun t238 => (if t238 = true then (some true) else (some false))))
def laws_FnExactAgreedTime.f (k : Nat) (a0 : Int) (a1 : Int) (l2 : List (S104)) : Option (Bool) := (laws_szReadingS.f k l2 1048576).bind fun t224 => (if t224 < 0 then (some true) else ((laws_toReadingS.f k l2).bind fun t225 => ((spec_AgreedTime.f k a0 a1 t225).bind fun bt228 => ((laws_toReadingS.f k l2).bind fun t230 => ((impl_AgreedTime.f k a0 a1 t230).bind fun bt233 => (if bt233.1 = bt228.1 then (laws_FnExactAgreedTime.j0 k l2 t230 (bt233.2 != bt228.2)) else (laws_FnExactAgreedTime.j0 k l2 t230 true)))))))
theorem laws_FnExactAgreedTime.mono_l : ∀ k, (∀ y0 y1 y2, LeO (laws_FnExactAgreedTime.j0 k y0 y1 y2) (laws_FnExactAgreedTime.j0 (k + 1) y0 y1 y2))
  | 0 => fun _ _ _ r h => by simp [laws_FnExactAgreedTime.j0] at h
  | k + 1 => by
    have ih0 := laws_FnExactAgreedTime.mono_l k
    · intro y0 y1 y2
      unfold laws_FnExactAgreedTime.j0
      repeat' first
      | (with_reducible exact ih0 _ _ _)
      | (with_reducible exact impl_AgreedTime.mono _ _ _ _)
      | (with_reducible exact laws_eqReadingS.mono _ _ _)
      | (with_reducible exact laws_szReadingS.mono _ _ _)
      | (with_reducible exact laws_toReadingS.mono _ _)
      | (with_reducible exact spec_AgreedTime.mono _ _ _ _)
      | (with_reducible exact LeO.refl _)
      | (with_reducible exact LeO.none _)
      | (with_reducible refine LeO.ite ?_ ?_)
      | (with_reducible refine LeO.bind ?_ (fun _ => ?_))
      | exact ih0 _ _ _
      | exact impl_AgreedTime.mono _ _ _ _
      | exact laws_eqReadingS.mono _ _ _
      | exact laws_szReadingS.mono _ _ _
      | exact laws_toReadingS.mono _ _
      | exact spec_AgreedTime.mono _ _ _ _
      | exact LeO.none _
      | refine LeO.ite ?_ ?_
      | refine LeO.bind ?_ (fun _ => ?_)
theorem laws_FnExactAgreedTime.mono : ∀ a0 a1 a2 k, LeO (laws_FnExactAgreedTime.f k a0 a1 a2) (laws_FnExactAgreedTime.f (k + 1) a0 a1 a2) := by
  intro a0 a1 a2 k
  have ih0 := laws_FnExactAgreedTime.mono_l k
  unfold laws_FnExactAgreedTime.f
  repeat' first
      | (with_reducible exact ih0 _ _ _)
      | (with_reducible exact impl_AgreedTime.mono _ _ _ _)
      | (with_reducible exact laws_eqReadingS.mono _ _ _)
      | (with_reducible exact laws_szReadingS.mono _ _ _)
      | (with_reducible exact laws_toReadingS.mono _ _)
      | (with_reducible exact spec_AgreedTime.mono _ _ _ _)
      | (with_reducible exact LeO.refl _)
      | (with_reducible exact LeO.none _)
      | (with_reducible refine LeO.ite ?_ ?_)
      | (with_reducible refine LeO.bind ?_ (fun _ => ?_))
      | exact ih0 _ _ _
      | exact impl_AgreedTime.mono _ _ _ _
      | exact laws_eqReadingS.mono _ _ _
      | exact laws_szReadingS.mono _ _ _
      | exact laws_toReadingS.mono _ _
      | exact spec_AgreedTime.mono _ _ _ _
      | exact LeO.none _
      | refine LeO.ite ?_ ?_
      | refine LeO.bind ?_ (fun _ => ?_)
set_option maxHeartbeats 8000000 in
set_option maxRecDepth 100000 in
theorem laws_FnExactAgreedTime.calls (k : Nat) (a0 : Int) (a1 : Int) (A2 : Option Addr) (c2 : Nat) (l2 : List (S104)) (r : Bool) (w : World) (hr2 : Kd.C k104 w A2 l2.length l2) (hc2 : l2.length ≤ c2) (hG_ : Go.Proofs.YtmkaknegjahjaaaDoor.Sha.GlobA w) (hr_ : r = true) (h : laws_FnExactAgreedTime.f k a0 a1 l2 = some r) :
    Calls Tryd.prog 8 #[.int .i64 a0, .int .i64 a1, .slice A2 l2.length c2] w fun e w' => e = .returned (.bool r) ∧ Below w.heap.size w w' := by
  have HR2 := qd6 hr2
  have HC2 := qd6 hc2
  clear hr2 hc2
  have HB := qd6 (Below.refl w.heap.size w)
  have H : ((laws_szReadingS.f k l2 1048576).bind fun t224 => (if t224 < 0 then (some true) else ((laws_toReadingS.f k l2).bind fun t225 => ((spec_AgreedTime.f k a0 a1 t225).bind fun bt228 => ((laws_toReadingS.f k l2).bind fun t230 => ((impl_AgreedTime.f k a0 a1 t230).bind fun bt233 => (if bt233.1 = bt228.1 then (laws_FnExactAgreedTime.j0 k l2 t230 (bt233.2 != bt228.2)) else (laws_FnExactAgreedTime.j0 k l2 t230 true)))))))) = some r := h
  clear h
  replace H := Option.bind_eq_some_iff.mp H
  obtain ⟨t224, A40, H⟩ := H
  replace H : (if t224 < 0 then (some true) else ((laws_toReadingS.f k l2).bind fun t225 => ((spec_AgreedTime.f k a0 a1 t225).bind fun bt228 => ((laws_toReadingS.f k l2).bind fun t230 => ((impl_AgreedTime.f k a0 a1 t230).bind fun bt233 => (if bt233.1 = bt228.1 then (laws_FnExactAgreedTime.j0 k l2 t230 (bt233.2 != bt228.2)) else (laws_FnExactAgreedTime.j0 k l2 t230 true))))))) = some r := H
  have A4 := qd6 A40
  clear A40
  by_cases c5 : t224 < 0
  · rw [if_pos c5] at H
    have c5b0 : decide (t224 < 0) = true := decide_eq_true c5
    clear c5
    obtain rfl := Option.some.inj H
    go_enter Tryd.func8, Tryd.ntmps8
    go_wp2_with (first | ((with_reducible refine gate_callee (f := 38) rfl ?_); refine goesL_ (some 15) rfl rfl Tryd.func38 (by kernel_rfl) rfl #[.slice A2 l2.length c2, .int .i64 1048576] rfl (by (try simp only [List.map_toArray, List.map_cons, List.map_nil]); first | done | rfl | (simp only [List.length_drop, List.length_take]; rfl)) ?_; (with_reducible refine (laws_szReadingS.calls k _ _ l2 1048576 t224 _ ?side1 ?side2 A4.out).mono ?_); (case side1 => repeat (first | exact HR2.out | (with_reducible refine Kd.C_alloc ?_ _) | (with_reducible refine Kd.C_drewN ?_ _) | (with_reducible refine Kd.C_drew ?_))); (case side2 => exact HC2.out); rintro e w6 ⟨rfl, hb⟩; refine ⟨_, rfl, ?_⟩; have n0_ := qd6 (below_step (by repeat (first | (with_reducible first | exact HB.out | apply qa6 | apply qb6 | apply qc6) | exact HB.out)) hb); clear HB; have HB := n0_; clear n0_; (try clear hb); (try clear hb2); (try clear hk); (try clear hi)))
    go_ret
    exact ⟨by first | rfl | (simp [errW_none, errW_some] <;> rfl) | (simp [*, errW_none, errW_some] <;> rfl), by repeat (first | (with_reducible first | exact HB.out | apply qa6 | apply qb6 | apply qc6) | exact HB.out)⟩
  · rw [if_neg c5] at H
    have c5b0 : decide (t224 < 0) = false := decide_eq_false c5
    clear c5
    replace H := Option.bind_eq_some_iff.mp H
    obtain ⟨t225, A70, H⟩ := H
    replace H : ((spec_AgreedTime.f k a0 a1 t225).bind fun bt228 => ((laws_toReadingS.f k l2).bind fun t230 => ((impl_AgreedTime.f k a0 a1 t230).bind fun bt233 => (if bt233.1 = bt228.1 then (laws_FnExactAgreedTime.j0 k l2 t230 (bt233.2 != bt228.2)) else (laws_FnExactAgreedTime.j0 k l2 t230 true))))) = some r := H
    have A7 := qd6 A70
    clear A70
    replace H := Option.bind_eq_some_iff.mp H
    obtain ⟨⟨t228, t229⟩, A80, H⟩ := H
    replace H : ((laws_toReadingS.f k l2).bind fun t230 => ((impl_AgreedTime.f k a0 a1 t230).bind fun bt233 => (if bt233.1 = t228 then (laws_FnExactAgreedTime.j0 k l2 t230 (bt233.2 != t229)) else (laws_FnExactAgreedTime.j0 k l2 t230 true)))) = some r := H
    have A8 := qd6 A80
    clear A80
    replace H := Option.bind_eq_some_iff.mp H
    obtain ⟨t230, A90, H⟩ := H
    replace H : ((impl_AgreedTime.f k a0 a1 t230).bind fun bt233 => (if bt233.1 = t228 then (laws_FnExactAgreedTime.j0 k l2 t230 (bt233.2 != t229)) else (laws_FnExactAgreedTime.j0 k l2 t230 true))) = some r := H
    have A9 := qd6 A90
    clear A90
    replace H := Option.bind_eq_some_iff.mp H
    obtain ⟨⟨t233, t234⟩, A100, H⟩ := H
    replace H : (if t233 = t228 then (laws_FnExactAgreedTime.j0 k l2 t230 (t234 != t229)) else (laws_FnExactAgreedTime.j0 k l2 t230 true)) = some r := H
    have A10 := qd6 A100
    clear A100
    have HC11 := qd6 H
    clear H
    go_enter Tryd.func8, Tryd.ntmps8
    go_upto_region 8 with (first | ((with_reducible refine gate_callee (f := 38) rfl ?_); refine goesL_ (some 15) rfl rfl Tryd.func38 (by kernel_rfl) rfl #[.slice A2 l2.length c2, .int .i64 1048576] rfl (by (try simp only [List.map_toArray, List.map_cons, List.map_nil]); first | done | rfl | (simp only [List.length_drop, List.length_take]; rfl)) ?_; (with_reducible refine (laws_szReadingS.calls k _ _ l2 1048576 t224 _ ?side1 ?side2 A4.out).mono ?_); (case side1 => repeat (first | exact HR2.out | (with_reducible refine Kd.C_alloc ?_ _) | (with_reducible refine Kd.C_drewN ?_ _) | (with_reducible refine Kd.C_drew ?_))); (case side2 => exact HC2.out); rintro e w12 ⟨rfl, hb⟩; refine ⟨_, rfl, ?_⟩; have n0_ := qd6 (below_step (by repeat (first | (with_reducible first | exact HB.out | apply qa6 | apply qb6 | apply qc6) | exact HB.out)) hb); clear HB; have HB := n0_; clear n0_; (try clear hb); (try clear hb2); (try clear hk); (try clear hi)) | ((with_reducible refine gate_callee (f := 40) rfl ?_); refine goesL_ (some 22) rfl rfl Tryd.func40 (by kernel_rfl) rfl #[.slice A2 l2.length c2] rfl (by (try simp only [List.map_toArray, List.map_cons, List.map_nil]); first | done | rfl | (simp only [List.length_drop, List.length_take]; rfl)) ?_; (with_reducible refine (laws_toReadingS.calls k _ _ l2 t225 _ ?side1 ?side2 A7.out).mono ?_); (case side1 => repeat (first | exact (Kd.C_below HR2.out HB.out) | (with_reducible refine Kd.C_alloc ?_ _) | (with_reducible refine Kd.C_drewN ?_ _) | (with_reducible refine Kd.C_drew ?_))); (case side2 => exact HC2.out); rintro e w13 ⟨v226, rfl, ho0, hb⟩; refine ⟨_, rfl, ?_⟩; have n0_ := qd6 (Kd.R_lower ho0 (below_size (by repeat (first | (with_reducible first | exact HB.out | apply qa6 | apply qb6 | apply qc6) | exact HB.out)))); have n1_ := qd6 (below_step (by repeat (first | (with_reducible first | exact HB.out | apply qa6 | apply qb6 | apply qc6) | exact HB.out)) hb); clear HB; have HO227 := n0_; have HB := n1_; clear n0_ n1_; (try clear hb); (try clear hb2); (try clear hk); (try clear hi); (try clear ho0); obtain ⟨Ao14, co14, eo14⟩ := Kd.R_slice HO227.out; subst eo14) | ((with_reducible refine gate_callee (f := 43) rfl ?_); refine goesL_ (some 23) rfl rfl Tryd.func43 (by kernel_rfl) rfl #[.int .i64 a0, .int .i64 a1, .slice Ao14 t225.length co14] rfl (by (try simp only [List.map_toArray, List.map_cons, List.map_nil]); first | done | rfl | (simp only [List.length_drop, List.length_take]; rfl)) ?_; (with_reducible refine (spec_AgreedTime.calls k a0 a1 _ _ t225 t228 t229 _ ?side1 ?side2 A8.out).mono ?_); (case side1 => repeat (first | exact (Kd.R_reads' HO227.out).2.2 | (with_reducible refine Kd.C_alloc ?_ _) | (with_reducible refine Kd.C_drewN ?_ _) | (with_reducible refine Kd.C_drew ?_))); (case side2 => exact (Kd.R_reads' HO227.out).2.1); rintro e w15 ⟨rfl, hb⟩; refine ⟨_, rfl, ?_⟩; have n0_ := qd6 (Kd.R_below (by (with_reducible repeat (first | apply Kd.R_alloc | apply Kd.R_drewN | apply Kd.R_drew)); exact HO227.out) hb); have n1_ := qd6 (below_step (by repeat (first | (with_reducible first | exact HB.out | apply qa6 | apply qb6 | apply qc6) | exact HB.out)) hb); clear HO227; clear HB; have HO227 := n0_; have HB := n1_; clear n0_ n1_; (try clear hb); (try clear hb2); (try clear hk); (try clear hi)) | ((with_reducible refine gate_callee (f := 40) rfl ?_); refine goesL_ (some 27) rfl rfl Tryd.func40 (by kernel_rfl) rfl #[.slice A2 l2.length c2] rfl (by (try simp only [List.map_toArray, List.map_cons, List.map_nil]); first | done | rfl | (simp only [List.length_drop, List.length_take]; rfl)) ?_; (with_reducible refine (laws_toReadingS.calls k _ _ l2 t230 _ ?side1 ?side2 A9.out).mono ?_); (case side1 => repeat (first | exact (Kd.C_below HR2.out HB.out) | (with_reducible refine Kd.C_alloc ?_ _) | (with_reducible refine Kd.C_drewN ?_ _) | (with_reducible refine Kd.C_drew ?_))); (case side2 => exact HC2.out); rintro e w16 ⟨v231, rfl, ho0, hb⟩; refine ⟨_, rfl, ?_⟩; have n0_ := qd6 (Kd.R_elder' (by (with_reducible repeat (first | apply Kd.R_alloc | apply Kd.R_drewN | apply Kd.R_drew)); exact HO227.out) (Kd.R_base ho0) hb); have n1_ := qd6 (Kd.R_lower (Kd.R_new' ho0 (Kd.R_lt (by (with_reducible repeat (first | apply Kd.R_alloc | apply Kd.R_drewN | apply Kd.R_drew)); exact HO227.out))) (below_size (by repeat (first | (with_reducible first | exact HB.out | apply qa6 | apply qb6 | apply qc6) | exact HB.out)))); have n2_ := qd6 (below_step (by repeat (first | (with_reducible first | exact HB.out | apply qa6 | apply qb6 | apply qc6) | exact HB.out)) hb); clear HO227; clear HB; have HO227 := n0_; have HO232 := n1_; have HB := n2_; clear n0_ n1_ n2_; (try clear hb); (try clear hb2); (try clear hk); (try clear hi); (try clear ho0); obtain ⟨Ao17, co17, eo17⟩ := Kd.R_slice HO232.out; subst eo17) | ((with_reducible refine gate_callee (f := 44) rfl ?_); refine goesL_ (some 32) rfl rfl Tryd.func44 (by kernel_rfl) rfl #[.int .i64 a0, .int .i64 a1, .slice Ao17 t230.length co17] rfl (by (try simp only [List.map_toArray, List.map_cons, List.map_nil]); first | done | rfl | (simp only [List.length_drop, List.length_take]; rfl)) ?_; (with_reducible refine (impl_AgreedTime.calls k a0 a1 _ _ t230 t233 t234 _ ?side1 ?side2 ?side3 A10.out).mono ?_); (case side1 => repeat (first | exact (Kd.R_reads' HO232.out).2.2 | (with_reducible refine Kd.C_alloc ?_ _) | (with_reducible refine Kd.C_drewN ?_ _) | (with_reducible refine Kd.C_drew ?_))); (case side2 => exact (Kd.R_reads' HO232.out).2.1); (case side3 => exact Go.Proofs.YtmkaknegjahjaaaDoor.Sha.glob_below hG_ (by repeat (first | (with_reducible first | exact HB.out | apply qa6 | apply qb6 | apply qc6) | exact HB.out))); rintro e w18 ⟨rfl, hb⟩; refine ⟨_, rfl, ?_⟩; have n0_ := qd6 (Kd.R_below (by (with_reducible repeat (first | apply Kd.R_alloc | apply Kd.R_drewN | apply Kd.R_drew)); exact HO227.out) hb); have n1_ := qd6 (Kd.R_below (by (with_reducible repeat (first | apply Kd.R_alloc | apply Kd.R_drewN | apply Kd.R_drew)); exact HO232.out) hb); have n2_ := qd6 (below_step (by repeat (first | (with_reducible first | exact HB.out | apply qa6 | apply qb6 | apply qc6) | exact HB.out)) hb); clear HO227; clear HO232; clear HB; have HO227 := n0_; have HO232 := n1_; have HB := n2_; clear n0_ n1_ n2_; (try clear hb); (try clear hb2); (try clear hk); (try clear hi)))
    (try simp only [Act.put, List.setIfInBounds_toArray, List.set_cons_zero, List.set_cons_succ])
    go_cut [42] (fun v42 wc => ∃ (kq : Nat) (x42_10 : Bool), v42 = .bool x42_10 ∧ Aside0 (laws_FnExactAgreedTime.j0 kq l2 t230 x42_10 = some r) ∧ Aside0 (kq ≤ k) ∧ Aside0 (Kd.R k72 72 wc w.heap.size (fun _ => True) (.slice Ao17 t230.length co17) t230) ∧ Aside0 (Below w.heap.size w wc))
    case first =>
      have H := HC11.out
      clear HC11
      by_cases c19 : t233 = t228
      · rw [if_pos c19] at H
        have c19b0 : (t233 == t228) = true := beq_iff_eq.mpr c19
        have c19b1 : (t233 != t228) = false := bne_eq_false_iff_eq.mpr c19
        clear c19
        (first | rw [c19b0] | (simp only [i64_w, i32_w]; rw [c19b0]) | skip)
        have H' := qd6 H
        clear H
        go_wp2
        go_meet
        case rel => exact ⟨_, ((t234 != t229)), (by first | rfl | (simp; done) | (simp [*]; done)), H', ⟨by first | omega | exact Nat.le_refl _⟩, ⟨by (with_reducible repeat (first | apply Kd.R_alloc | apply Kd.R_drewN | apply Kd.R_drew)); exact Kd.R_mono HO232.out (fun _ hk => trivial)⟩, ⟨by repeat (first | (with_reducible first | exact HB.out | apply qa6 | apply qb6 | apply qc6) | exact HB.out)⟩⟩
      · rw [if_neg c19] at H
        have c19b0 : (t233 == t228) = false := beq_eq_false_iff_ne.mpr c19
        have c19b1 : (t233 != t228) = true := bne_iff_ne.mpr c19
        (first | rw [c19b0] | (simp only [i64_w, i32_w]; rw [c19b0]) | skip)
        have H' := qd6 H
        clear H
        go_wp2
        go_meet
        case rel => exact ⟨_, (true), (by first | rfl | (simp; done) | (simp [*]; done)), H', ⟨by first | omega | exact Nat.le_refl _⟩, ⟨by (with_reducible repeat (first | apply Kd.R_alloc | apply Kd.R_drewN | apply Kd.R_drew)); exact Kd.R_mono HO232.out (fun _ hk => trivial)⟩, ⟨by repeat (first | (with_reducible first | exact HB.out | apply qa6 | apply qb6 | apply qc6) | exact HB.out)⟩⟩
    case rest =>
      clear HC11
      try clear c1
      try clear c2
      try clear p2
      try clear c3
      try clear c4
      try clear c5
      try clear c5b0
      try clear c8
      try clear c19
      try clear c19b0
      try clear c19b1
      obtain ⟨kq, x42_10, rfl, HA, HJ10, HO_10, HB⟩ := hcut
      cases kq with
      | zero => exact absurd HA.out (by simp [laws_FnExactAgreedTime.j0])
      | succ kj10 =>
        have H := HA.out
        clear HA
        simp only [laws_FnExactAgreedTime.j0] at H
        by_cases c20 : x42_10 = true
        · subst c20
          have H1 : (some false) = some r := by rw [if_pos rfl] at H; exact H
          clear H
          have H := H1
          clear H1
          obtain rfl := Option.some.inj H
          exact absurd hr_ (by decide)
        · replace c20 := Bool.eq_false_iff.mpr c20
          subst c20
          have H1 : ((laws_toReadingS.f kj10 l2).bind fun t235 => ((laws_eqReadingS.f kj10 t230 t235).bind fun t238 => (if t238 = true then (some true) else (some false)))) = some r := by rw [if_neg (show ¬ (false = true) by decide)] at H; exact H
          clear H
          have H := H1
          clear H1
          replace H := Option.bind_eq_some_iff.mp H
          obtain ⟨t235, A210, H⟩ := H
          replace H : ((laws_eqReadingS.f kj10 t230 t235).bind fun t238 => (if t238 = true then (some true) else (some false))) = some r := H
          have A21 := qd6 A210
          clear A210
          replace H := Option.bind_eq_some_iff.mp H
          obtain ⟨t238, A220, H⟩ := H
          replace H : (if t238 = true then (some true) else (some false)) = some r := H
          have A22 := qd6 A220
          clear A220
          by_cases c23 : t238 = true
          · subst c23
            have H1 : (some true) = some r := by rw [if_pos rfl] at H; exact H
            clear H
            have H := H1
            clear H1
            obtain rfl := Option.some.inj H
            go_wp2_with (first | ((with_reducible refine gate_callee (f := 40) rfl ?_); refine goesL_ (some 45) rfl rfl Tryd.func40 (by kernel_rfl) rfl #[.slice A2 l2.length c2] rfl (by (try simp only [List.map_toArray, List.map_cons, List.map_nil]); first | done | rfl | (simp only [List.length_drop, List.length_take]; rfl)) ?_; (with_reducible refine (laws_toReadingS.calls kj10 _ _ l2 t235 _ ?side1 ?side2 A21.out).mono ?_); (case side1 => repeat (first | exact (Kd.C_below HR2.out HB.out) | (with_reducible refine Kd.C_alloc ?_ _) | (with_reducible refine Kd.C_drewN ?_ _) | (with_reducible refine Kd.C_drew ?_))); (case side2 => exact HC2.out); rintro e w24 ⟨v236, rfl, ho0, hb⟩; refine ⟨_, rfl, ?_⟩; have n0_ := qd6 (Kd.R_elder' (by (with_reducible repeat (first | apply Kd.R_alloc | apply Kd.R_drewN | apply Kd.R_drew)); exact HO_10.out) (Kd.R_base ho0) hb); have n1_ := qd6 (Kd.R_lower (Kd.R_new' ho0 (Kd.R_lt (by (with_reducible repeat (first | apply Kd.R_alloc | apply Kd.R_drewN | apply Kd.R_drew)); exact HO_10.out))) (below_size (by repeat (first | (with_reducible first | exact HB.out | apply qa6 | apply qb6 | apply qc6) | exact HB.out)))); have n2_ := qd6 (below_step (by repeat (first | (with_reducible first | exact HB.out | apply qa6 | apply qb6 | apply qc6) | exact HB.out)) hb); clear HO_10; clear HB; have HO_10 := n0_; have HO237 := n1_; have HB := n2_; clear n0_ n1_ n2_; (try clear hb); (try clear hb2); (try clear hk); (try clear hi); (try clear ho0); obtain ⟨Ao25, co25, eo25⟩ := Kd.R_slice HO237.out; subst eo25) | ((with_reducible refine gate_callee (f := 42) rfl ?_); refine goesL_ (some 46) rfl rfl Tryd.func42 (by kernel_rfl) rfl #[.slice Ao17 t230.length co17, .slice Ao25 t235.length co25] rfl (by (try simp only [List.map_toArray, List.map_cons, List.map_nil]); first | done | rfl | (simp only [List.length_drop, List.length_take]; rfl)) ?_; (with_reducible refine (laws_eqReadingS.calls kj10 _ _ t230 _ _ t235 true _ ?side1 ?side2 ?side3 ?side4 A22.out).mono ?_); (case side1 => repeat (first | exact (Kd.R_reads' HO_10.out).2.2 | (with_reducible refine Kd.C_alloc ?_ _) | (with_reducible refine Kd.C_drewN ?_ _) | (with_reducible refine Kd.C_drew ?_))); (case side2 => exact (Kd.R_reads' HO_10.out).2.1); (case side3 => repeat (first | exact (Kd.R_reads' HO237.out).2.2 | (with_reducible refine Kd.C_alloc ?_ _) | (with_reducible refine Kd.C_drewN ?_ _) | (with_reducible refine Kd.C_drew ?_))); (case side4 => exact (Kd.R_reads' HO237.out).2.1); rintro e w26 ⟨rfl, hb⟩; refine ⟨_, rfl, ?_⟩; have n0_ := qd6 (Kd.R_below (by (with_reducible repeat (first | apply Kd.R_alloc | apply Kd.R_drewN | apply Kd.R_drew)); exact HO_10.out) hb); have n1_ := qd6 (Kd.R_below (by (with_reducible repeat (first | apply Kd.R_alloc | apply Kd.R_drewN | apply Kd.R_drew)); exact HO237.out) hb); have n2_ := qd6 (below_step (by repeat (first | (with_reducible first | exact HB.out | apply qa6 | apply qb6 | apply qc6) | exact HB.out)) hb); clear HO_10; clear HO237; clear HB; have HO_10 := n0_; have HO237 := n1_; have HB := n2_; clear n0_ n1_ n2_; (try clear hb); (try clear hb2); (try clear hk); (try clear hi)))
            go_ret
            exact ⟨by first | rfl | (simp [errW_none, errW_some] <;> rfl) | (simp [*, errW_none, errW_some] <;> rfl), by repeat (first | (with_reducible first | exact HB.out | apply qa6 | apply qb6 | apply qc6) | exact HB.out)⟩
          · replace c23 := Bool.eq_false_iff.mpr c23
            subst c23
            have H1 : (some false) = some r := by rw [if_neg (show ¬ (false = true) by decide)] at H; exact H
            clear H
            have H := H1
            clear H1
            obtain rfl := Option.some.inj H
            exact absurd hr_ (by decide)

end Go.Proofs.YtmkaknegjahjaaaDoor.PFnExactAgreedTime
