-- laid by this session's program myprint.py over the kit's printer
-- aliased
import Derived.Test.YtgekkfgljjbikaaPFnExactBatchBytesx0
namespace Go.Proofs.Ytgekkfgljjbikaa.PFnExactBatchBytes
open Go.RowKit Go.Proofs.YtgekkfgljjbikaaV.PrintWords Go.Proofs.YtgekkfgljjbikaaV.PrintLast Go.Proofs.YtgekkfgljjbikaaV.PrintMore
attribute [local go_sem] max2_int min2_int max_two min_two max_three min_three max_four min_four u8_wm u32_wm   -- for this text's walks alone
set_option linter.unusedVariables false
set_option linter.unusedSimpArgs false

/-! ### spec_l02Number: function 111 -/
theorem qa5 : type_of% @Kd.R_alloc := @Kd.R_alloc
theorem qb5 : type_of% @Kd.R_drewN := @Kd.R_drewN
theorem qc5 : type_of% @Kd.R_drew := @Kd.R_drew
theorem qd5 : type_of% @below_alloc := @below_alloc
theorem qe5 : type_of% @pw_below_drewN := @pw_below_drewN
theorem qf5 : type_of% @below_drew1 := @below_drew1
theorem qg5 : type_of% @Aside0.mk := @Aside0.mk
def spec_l02Number.l0 : Nat → Int → List Int → Int → Option (List Int)
  | 0, _, _, _ => none
  | k + 1, x0, x5, x6 => if x6 ≥ 0 then (if 0 ≤ (IntKind.u64.wrap (wrap64 (8 * x6))) then (if x5.length < 140737488355328 then (spec_l02Number.l0 k x0 (x5 ++ [(shr .i64 x0 (IntKind.u64.wrap (wrap64 (8 * x6)))) % 256]) (wrap64 (x6 - 1))) else (none)) else (none)) else (some x5)
def spec_l02Number.f (k : Nat) (a0 : Int) (a1 : Int) : Option (List Int) := spec_l02Number.l0 k a0 (([] : List Int)) (wrap64 (a1 - 1))
theorem spec_l02Number.mono_l : ∀ k, (∀ y0 y1 y2, LeO (spec_l02Number.l0 k y0 y1 y2) (spec_l02Number.l0 (k + 1) y0 y1 y2))
  | 0 => fun _ _ _ r h => by simp [spec_l02Number.l0] at h
  | k + 1 => by
    have ih0 := spec_l02Number.mono_l k
    · intro y0 y1 y2
      unfold spec_l02Number.l0
      repeat' first
      | (with_reducible exact ih0 _ _ _)
      | (with_reducible exact LeO.refl _)
      | (with_reducible exact LeO.none _)
      | (with_reducible refine LeO.ite ?_ ?_)
      | (with_reducible refine LeO.bind ?_ (fun _ => ?_))
      | exact ih0 _ _ _
      | exact LeO.none _
      | refine LeO.ite ?_ ?_
      | refine LeO.bind ?_ (fun _ => ?_)
theorem spec_l02Number.mono : ∀ a0 a1 k, LeO (spec_l02Number.f k a0 a1) (spec_l02Number.f (k + 1) a0 a1) := by
  intro a0 a1 k
  have ih0 := spec_l02Number.mono_l k
  unfold spec_l02Number.f
  repeat' first
      | (with_reducible exact ih0 _ _ _)
      | (with_reducible exact LeO.refl _)
      | (with_reducible exact LeO.none _)
      | (with_reducible refine LeO.ite ?_ ?_)
      | (with_reducible refine LeO.bind ?_ (fun _ => ?_))
      | exact ih0 _ _ _
      | exact LeO.none _
      | refine LeO.ite ?_ ?_
      | refine LeO.bind ?_ (fun _ => ?_)
set_option maxHeartbeats 8000000 in
set_option maxRecDepth 100000 in
theorem spec_l02Number.calls (k : Nat) (a0 : Int) (a1 : Int) (r : List Int) (w : World) (h : spec_l02Number.f k a0 a1 = some r) :
    Calls Try.prog 111 #[.int .i64 a0, .int .i64 a1] w fun e w' => ∃ v0_ : Value, e = .returned (v0_) ∧ Kd.R (Kd.int .u8) 5 w' w.heap.size (fun _ => True) v0_ r ∧ Below w.heap.size w w' := by
  have HB := qg5 (Below.refl w.heap.size w)
  have H : (spec_l02Number.l0 k a0 (([] : List Int)) (wrap64 (a1 - 1))) = some r := h
  clear h
  obtain ⟨y133, hy133⟩ : ∃ y_ : List Int, y_ = (([] : List Int)) := ⟨_, rfl⟩
  replace H : (spec_l02Number.l0 k a0 y133 (wrap64 (a1 - 1))) = some r := by first | (rw [hy133]; with_reducible exact H) | (have H2_ := (Option.bind_some _ _).symm.trans H; rw [hy133]; with_reducible exact H2_) | (have H2_ := (Option.bind_some _ _).symm.trans H; with_reducible exact H2_) | with_reducible exact H | (rw [hy133]; exact H) | exact H
  have Ny133 := qg5 hy133
  clear hy133
  have H' := qg5 H
  clear H
  go_enter Try.func111, Try.ntmps111
  go_wp2_with (first | ((with_reducible refine gate_dst (N := 7) rfl ?_); refine Kd.R_lit (Kd.int .u8) _ 5 ?hg (N := 7) ?hd (xs := ([] : List Int)) (inner := []) (ok := fun _ => True) (okp := fun _ => True) ?hr ?hp (fun _ hk => hk) trivial (Below.refl _ _) (Nat.le_refl _) (by simp) ?_; (case hd => rfl); (case hg => rfl); (case hr => first | (go_simp; done) | (go_simp; rfl)); (case hp => exact (Reps.none _ _)); intro v134 w3 ho4 hb hg_ hnew_; clear hg_ hnew_; (first | rw [← Ny133.out] at ho4 | (simp only [Int.reduceToNat] at ho4; rw [← Ny133.out] at ho4)); have n0_ := qg5 (Kd.R_lower ho4 (below_size (by repeat (first | (with_reducible first | exact HB.out | apply qd5 | apply qe5 | apply qf5) | exact HB.out)))); have n1_ := qg5 (below_step (by repeat (first | (with_reducible first | exact HB.out | apply qd5 | apply qe5 | apply qf5) | exact HB.out)) hb); clear HB; have HO135 := n0_; have HB := n1_; clear n0_ n1_; clear hb ho4))
  go_loopg [5, 6] k (fun kq v5 v6 w' => ∃ (x5_1 : List Int) (x6_1 : Int), v6 = .int .i64 x6_1 ∧ Aside0 (spec_l02Number.l0 kq a0 x5_1 x6_1 = some r) ∧ Aside0 (kq ≤ k) ∧ Aside0 (Kd.R (Kd.int .u8) 5 w' w.heap.size (fun _ => True) v5 x5_1) ∧ Aside0 (Below w.heap.size w w'))
  case atStart => exact ⟨(y133), (wrap64 (a1 - 1)), (by first | rfl | (simp; done) | (simp [*]; done)), H', ⟨Nat.le_refl _⟩, ⟨by (with_reducible repeat (first | apply qa5 | apply qb5 | apply qc5)); exact HO135.out⟩, ⟨by repeat (first | (with_reducible first | exact HB.out | apply qd5 | apply qe5 | apply qf5) | exact HB.out)⟩⟩
  case round =>
    clear H'
    try clear c1
    try clear p2
    obtain ⟨x5_1, x6_1, rfl, HA, HK1, HO_5, HB⟩ := hrel
    cases gk with
    | zero => exact absurd HA.out (by simp [spec_l02Number.l0])
    | succ k1 =>
      have H := HA.out
      clear HA
      simp only [spec_l02Number.l0] at H
      by_cases c5 : x6_1 ≥ 0
      · rw [if_pos c5] at H
        have c5b0 : decide (0 ≤ x6_1) = true := decide_eq_true c5
        clear c5
        obtain ⟨ji6, hji6⟩ : ∃ j_ : Int, (IntKind.u64.wrap (wrap64 (8 * x6_1))) = j_ := ⟨_, rfl⟩
        replace H : (if 0 ≤ (ji6) then (if x5_1.length < 140737488355328 then (spec_l02Number.l0 k1 a0 (x5_1 ++ [(shr .i64 a0 (ji6)) % 256]) (wrap64 (x6_1 - 1))) else (none)) else (none)) = some r := by first | (rw [hji6] at H; exact H) | (simp only [hji6] at H ⊢; exact H)
        by_cases c7 : 0 ≤ (ji6)
        · rw [if_pos c7] at H
          have c7b0 := eq_true c7
          have c7b1 : decide (0 ≤ (ji6)) = true := decide_eq_true c7
          clear c7
          obtain ⟨ji8, hji8⟩ : ∃ j_ : Int, (shr .i64 a0 (ji6)) = j_ := ⟨_, rfl⟩
          replace H : (if x5_1.length < 140737488355328 then (spec_l02Number.l0 k1 a0 (x5_1 ++ [(ji8) % 256]) (wrap64 (x6_1 - 1))) else (none)) = some r := by first | (rw [hji8] at H; exact H) | (simp only [hji8] at H ⊢; exact H)
          have hji8_ : (a0 / 2 ^ min (ji6).toNat 64) = ji8 := hji8
          have hji8z : (ji6) ≤ 64 → (a0 / 2 ^ (ji6).toNat) = ji8 := shr_small hji8
          by_cases c9 : x5_1.length < 140737488355328
          · rw [if_pos c9] at H
            have LMc9 := qg5 c9
            clear c9
            obtain ⟨y136, hy136⟩ : ∃ y_ : List Int, y_ = (x5_1 ++ [(ji8) % 256]) := ⟨_, rfl⟩
            replace H : (spec_l02Number.l0 k1 a0 y136 (wrap64 (x6_1 - 1))) = some r := by first | (rw [hy136]; with_reducible exact H) | (have H2_ := (Option.bind_some _ _).symm.trans H; rw [hy136]; with_reducible exact H2_) | (have H2_ := (Option.bind_some _ _).symm.trans H; with_reducible exact H2_) | with_reducible exact H | (rw [hy136]; exact H) | exact H
            have Ny136 := qg5 hy136
            clear hy136
            have H' := qg5 H
            clear H
            go_wp2_with (first | ((with_reducible refine gate_builtin (b := .append) (xs := #[.tmp 14, .tmp 21]) rfl ?_); at_builtin; refine Kd.R_append (Kd.int .u8) (w0 := w) w.heap.size rfl (.tmp 14) (.tmp 21) 26 5 (.int .u8 0) 1 rfl Try.underlying26 info5 rfl (by decide) (by omega) u5 x5_1 ((ji8) % 256) [.int .u8 ((ji8) % 256)] (fun _ => True) (fun _ => False) rfl rfl ?aP (fun _ hk => hk.elim) ?aF ?aO ?aB ?aS ?aL ?_; (case aP => exact rfl); (case aB => exact (by repeat (first | (with_reducible first | exact HB.out | apply qd5 | apply qe5 | apply qf5) | exact HB.out))); (case aF => exact (fun _ _ => trivial)); (case aO => exact (by (with_reducible repeat (first | apply qa5 | apply qb5 | apply qc5)); exact HO_5.out)); (case aS => exact (below_size (by repeat (first | (with_reducible first | exact HB.out | apply qd5 | apply qe5 | apply qf5) | exact HB.out)))); (case aL => have := LMc9.out; omega); intro v137 w10 ho hb hg hat; rw [← Ny136.out] at ho; have n0_ := qg5 (hb); have n1_ := qg5 (ho); clear HB; clear HO_5; have HB := n0_; have HO138 := n1_; clear n0_ n1_; clear ho hb hg hat))
            go_roundg k1
            case measure => have := HK1.out; omega
            case rel => exact ⟨(y136), (wrap64 (x6_1 - 1)), (by first | rfl | (simp; done) | (simp [*]; done)), H', ⟨by have := HK1.out; omega⟩, ⟨by (with_reducible repeat (first | apply qa5 | apply qb5 | apply qc5)); exact HO138.out⟩, ⟨by repeat (first | (with_reducible first | exact HB.out | apply qd5 | apply qe5 | apply qf5) | exact HB.out)⟩⟩
          · rw [if_neg c9] at H
            exact absurd H (by simp)
        · rw [if_neg c7] at H
          exact absurd H (by simp)
      · rw [if_neg c5] at H
        have c5b0 : decide (0 ≤ x6_1) = false := decide_eq_false c5
        clear c5
        obtain rfl := Option.some.inj H
        go_wp2
        go_ret
        exact ⟨_, by first | rfl | (simp [errW_none, errW_some] <;> rfl) | (simp [*, errW_none, errW_some] <;> rfl), by (with_reducible repeat (first | apply qa5 | apply qb5 | apply qc5)); exact HO_5.out, by repeat (first | (with_reducible first | exact HB.out | apply qd5 | apply qe5 | apply qf5) | exact HB.out)⟩

/-! ### spec_l02Request: function 75 -/
def spec_l02Request.f (k : Nat) (a0_0 : Int) (a0_1 : Int) (a0_2 : Int) (a0_3 : Int) (a0_4 : ByteArray) : Option (List Int) := (some (([(a0_0) % 256] : List Int) : List Int)).bind fun y140 => ((spec_l02Number.f k a0_1 2).bind fun t143 => (if y140.length + t143.length < 140737488355328 then ((some (y140 ++ t143 : List Int)).bind fun y146 => (if y146.length < 140737488355328 then ((some (y146 ++ [(a0_2) % 256] : List Int)).bind fun y149 => ((spec_l02Number.f k a0_3 2).bind fun t152 => (if y149.length + t152.length < 140737488355328 then ((some (y149 ++ t152 : List Int)).bind fun y155 => (if y155.length < 140737488355328 then ((some (y155 ++ [((a0_4.size : Int)) % 256] : List Int)).bind fun y158 => (if y158.length + a0_4.size < 140737488355328 then (some (y158 ++ bytesOf a0_4)) else (none))) else (none))) else (none)))) else (none))) else (none)))
theorem spec_l02Request.mono : ∀ a0 a1 a2 a3 a4 k, LeO (spec_l02Request.f k a0 a1 a2 a3 a4) (spec_l02Request.f (k + 1) a0 a1 a2 a3 a4) := by
  intro a0 a1 a2 a3 a4 k
  unfold spec_l02Request.f
  repeat' first
      | (with_reducible exact spec_l02Number.mono _ _ _)
      | (with_reducible exact LeO.refl _)
      | (with_reducible exact LeO.none _)
      | (with_reducible refine LeO.ite ?_ ?_)
      | (with_reducible refine LeO.bind ?_ (fun _ => ?_))
      | exact spec_l02Number.mono _ _ _
      | exact LeO.none _
      | refine LeO.ite ?_ ?_
      | refine LeO.bind ?_ (fun _ => ?_)
def spec_l02Request.T1 : Bool × List (List Nat × List Nat) := (true, [([], []), ([0], [0]), ([1], [1]), ([2], [2]), ([], []), ([4], [4]), ([5], [5]), ([3, 6, 6], [3, 6]), ([7, 7, 0, 1, 2, 3, 4, 5, 6, 7], [7])])
def spec_l02Request.B1 : List Nat := [0, 1, 3, 7, 0, 16, 48, 127, 255]
theorem spec_l02Request.tab1 : rtab .any (opsOf Try.f75 1) = spec_l02Request.T1 := by kernel_rfl
theorem spec_l02Request.bits1 : waitsOk spec_l02Request.T1.2 spec_l02Request.B1 = true := by kernel_rfl
def spec_l02Request.T2 : Bool × List (List Nat × List Nat) := (true, [([], []), ([], []), ([1], [1]), ([2], [2]), ([3], [3]), ([0, 4], [0, 4]), ([], []), ([6], [6]), ([7, 5], [7]), ([5, 8, 8], [5, 8]), ([9, 9, 0, 1, 2, 3, 4, 5, 6, 7, 8, 9], [0, 9])])
def spec_l02Request.B2 : List Nat := [0, 0, 2, 6, 14, 31, 0, 64, 255, 511, 1023]
theorem spec_l02Request.tab2 : rtab .any (opsOf Try.f75 2) = spec_l02Request.T2 := by kernel_rfl
theorem spec_l02Request.bits2 : waitsOk spec_l02Request.T2.2 spec_l02Request.B2 = true := by kernel_rfl
def spec_l02Request.T3 : Bool × List (List Nat × List Nat) := (true, [([], []), ([], []), ([1], [1]), ([2], [2]), ([3], [3]), ([4], [4]), ([0, 5], [0, 5]), ([], []), ([7], [7]), ([6, 8, 6], [6, 8]), ([9, 9, 0, 1, 2, 3, 4, 5, 6, 7, 8, 9], [9])])
def spec_l02Request.B3 : List Nat := [0, 0, 2, 6, 14, 30, 63, 0, 128, 511, 1023]
theorem spec_l02Request.tab3 : rtab .any (opsOf Try.f75 3) = spec_l02Request.T3 := by kernel_rfl
theorem spec_l02Request.bits3 : waitsOk spec_l02Request.T3.2 spec_l02Request.B3 = true := by kernel_rfl
set_option maxHeartbeats 8000000 in
set_option maxRecDepth 100000 in
theorem spec_l02Request.calls (k : Nat) (a0_0 : Int) (a0_1 : Int) (a0_2 : Int) (a0_3 : Int) (a0_4 : ByteArray) (r : List Int) (w : World) (h : spec_l02Request.f k a0_0 a0_1 a0_2 a0_3 a0_4 = some r) :
    Calls Try.prog 75 #[.agg #[.int .i64 a0_0, .int .i64 a0_1, .int .i64 a0_2, .int .i64 a0_3, .string a0_4]] w fun e w' => ∃ v0_ : Value, e = .returned (v0_) ∧ Kd.R (Kd.int .u8) 5 w' w.heap.size (fun _ => True) v0_ r ∧ Below w.heap.size w w' := by
  have hu44 := Try.underlying44
  have HB := qg5 (Below.refl w.heap.size w)
  have H : ((some (([(a0_0) % 256] : List Int) : List Int)).bind fun y140 => ((spec_l02Number.f k a0_1 2).bind fun t143 => (if y140.length + t143.length < 140737488355328 then ((some (y140 ++ t143 : List Int)).bind fun y146 => (if y146.length < 140737488355328 then ((some (y146 ++ [(a0_2) % 256] : List Int)).bind fun y149 => ((spec_l02Number.f k a0_3 2).bind fun t152 => (if y149.length + t152.length < 140737488355328 then ((some (y149 ++ t152 : List Int)).bind fun y155 => (if y155.length < 140737488355328 then ((some (y155 ++ [((a0_4.size : Int)) % 256] : List Int)).bind fun y158 => (if y158.length + a0_4.size < 140737488355328 then (some (y158 ++ bytesOf a0_4)) else (none))) else (none))) else (none)))) else (none))) else (none)))) = some r := h
  clear h
  obtain ⟨y140, hy140⟩ : ∃ y_ : List Int, y_ = (([(a0_0) % 256] : List Int)) := ⟨_, rfl⟩
  replace H : ((spec_l02Number.f k a0_1 2).bind fun t143 => (if y140.length + t143.length < 140737488355328 then ((some (y140 ++ t143 : List Int)).bind fun y146 => (if y146.length < 140737488355328 then ((some (y146 ++ [(a0_2) % 256] : List Int)).bind fun y149 => ((spec_l02Number.f k a0_3 2).bind fun t152 => (if y149.length + t152.length < 140737488355328 then ((some (y149 ++ t152 : List Int)).bind fun y155 => (if y155.length < 140737488355328 then ((some (y155 ++ [((a0_4.size : Int)) % 256] : List Int)).bind fun y158 => (if y158.length + a0_4.size < 140737488355328 then (some (y158 ++ bytesOf a0_4)) else (none))) else (none))) else (none)))) else (none))) else (none))) = some r := by first | (rw [hy140]; with_reducible exact H) | (have H2_ := (Option.bind_some _ _).symm.trans H; rw [hy140]; with_reducible exact H2_) | (have H2_ := (Option.bind_some _ _).symm.trans H; with_reducible exact H2_) | with_reducible exact H | (rw [hy140]; exact H) | exact H
  have Ny140 := qg5 hy140
  clear hy140
  replace H := Option.bind_eq_some_iff.mp H
  obtain ⟨t143, A20, H⟩ := H
  replace H : (if y140.length + t143.length < 140737488355328 then ((some (y140 ++ t143 : List Int)).bind fun y146 => (if y146.length < 140737488355328 then ((some (y146 ++ [(a0_2) % 256] : List Int)).bind fun y149 => ((spec_l02Number.f k a0_3 2).bind fun t152 => (if y149.length + t152.length < 140737488355328 then ((some (y149 ++ t152 : List Int)).bind fun y155 => (if y155.length < 140737488355328 then ((some (y155 ++ [((a0_4.size : Int)) % 256] : List Int)).bind fun y158 => (if y158.length + a0_4.size < 140737488355328 then (some (y158 ++ bytesOf a0_4)) else (none))) else (none))) else (none)))) else (none))) else (none)) = some r := H
  have A2 := qg5 A20
  clear A20
  by_cases c3 : y140.length + t143.length < 140737488355328
  · rw [if_pos c3] at H
    have LMc3 := qg5 c3
    clear c3
    obtain ⟨y146, hy146⟩ : ∃ y_ : List Int, y_ = (y140 ++ t143) := ⟨_, rfl⟩
    replace H : (if y146.length < 140737488355328 then ((some (y146 ++ [(a0_2) % 256] : List Int)).bind fun y149 => ((spec_l02Number.f k a0_3 2).bind fun t152 => (if y149.length + t152.length < 140737488355328 then ((some (y149 ++ t152 : List Int)).bind fun y155 => (if y155.length < 140737488355328 then ((some (y155 ++ [((a0_4.size : Int)) % 256] : List Int)).bind fun y158 => (if y158.length + a0_4.size < 140737488355328 then (some (y158 ++ bytesOf a0_4)) else (none))) else (none))) else (none)))) else (none)) = some r := by first | (rw [hy146]; with_reducible exact H) | (have H2_ := (Option.bind_some _ _).symm.trans H; rw [hy146]; with_reducible exact H2_) | (have H2_ := (Option.bind_some _ _).symm.trans H; with_reducible exact H2_) | with_reducible exact H | (rw [hy146]; exact H) | exact H
    have Ny146 := qg5 hy146
    clear hy146
    by_cases c4 : y146.length < 140737488355328
    · rw [if_pos c4] at H
      have LMc4 := qg5 c4
      clear c4
      obtain ⟨y149, hy149⟩ : ∃ y_ : List Int, y_ = (y146 ++ [(a0_2) % 256]) := ⟨_, rfl⟩
      replace H : ((spec_l02Number.f k a0_3 2).bind fun t152 => (if y149.length + t152.length < 140737488355328 then ((some (y149 ++ t152 : List Int)).bind fun y155 => (if y155.length < 140737488355328 then ((some (y155 ++ [((a0_4.size : Int)) % 256] : List Int)).bind fun y158 => (if y158.length + a0_4.size < 140737488355328 then (some (y158 ++ bytesOf a0_4)) else (none))) else (none))) else (none))) = some r := by first | (rw [hy149]; with_reducible exact H) | (have H2_ := (Option.bind_some _ _).symm.trans H; rw [hy149]; with_reducible exact H2_) | (have H2_ := (Option.bind_some _ _).symm.trans H; with_reducible exact H2_) | with_reducible exact H | (rw [hy149]; exact H) | exact H
      have Ny149 := qg5 hy149
      clear hy149
      replace H := Option.bind_eq_some_iff.mp H
      obtain ⟨t152, A50, H⟩ := H
      replace H : (if y149.length + t152.length < 140737488355328 then ((some (y149 ++ t152 : List Int)).bind fun y155 => (if y155.length < 140737488355328 then ((some (y155 ++ [((a0_4.size : Int)) % 256] : List Int)).bind fun y158 => (if y158.length + a0_4.size < 140737488355328 then (some (y158 ++ bytesOf a0_4)) else (none))) else (none))) else (none)) = some r := H
      have A5 := qg5 A50
      clear A50
      by_cases c6 : y149.length + t152.length < 140737488355328
      · rw [if_pos c6] at H
        have LMc6 := qg5 c6
        clear c6
        obtain ⟨y155, hy155⟩ : ∃ y_ : List Int, y_ = (y149 ++ t152) := ⟨_, rfl⟩
        replace H : (if y155.length < 140737488355328 then ((some (y155 ++ [((a0_4.size : Int)) % 256] : List Int)).bind fun y158 => (if y158.length + a0_4.size < 140737488355328 then (some (y158 ++ bytesOf a0_4)) else (none))) else (none)) = some r := by first | (rw [hy155]; with_reducible exact H) | (have H2_ := (Option.bind_some _ _).symm.trans H; rw [hy155]; with_reducible exact H2_) | (have H2_ := (Option.bind_some _ _).symm.trans H; with_reducible exact H2_) | with_reducible exact H | (rw [hy155]; exact H) | exact H
        have Ny155 := qg5 hy155
        clear hy155
        by_cases c7 : y155.length < 140737488355328
        · rw [if_pos c7] at H
          have LMc7 := qg5 c7
          clear c7
          obtain ⟨y158, hy158⟩ : ∃ y_ : List Int, y_ = (y155 ++ [((a0_4.size : Int)) % 256]) := ⟨_, rfl⟩
          replace H : (if y158.length + a0_4.size < 140737488355328 then (some (y158 ++ bytesOf a0_4)) else (none)) = some r := by first | (rw [hy158]; with_reducible exact H) | (have H2_ := (Option.bind_some _ _).symm.trans H; rw [hy158]; with_reducible exact H2_) | (have H2_ := (Option.bind_some _ _).symm.trans H; with_reducible exact H2_) | with_reducible exact H | (rw [hy158]; exact H) | exact H
          have Ny158 := qg5 hy158
          clear hy158
          by_cases c8 : y158.length + a0_4.size < 140737488355328
          · rw [if_pos c8] at H
            have LMc8 := qg5 c8
            clear c8
            obtain ⟨y161, hy161⟩ : ∃ y_ : List Int, y_ = (y158 ++ bytesOf a0_4) := ⟨_, rfl⟩
            replace H : (some y161) = some r := by first | (rw [hy161]; with_reducible exact H) | (have H2_ := (Option.bind_some _ _).symm.trans H; rw [hy161]; with_reducible exact H2_) | (have H2_ := (Option.bind_some _ _).symm.trans H; with_reducible exact H2_) | with_reducible exact H | (rw [hy161]; exact H) | exact H
            have Ny161 := qg5 hy161
            clear hy161
            obtain rfl := Option.some.inj H
            go_enter Try.func75, Try.ntmps75
            try go_wp2_with (first | ((with_reducible refine gate_dst (N := 1) rfl ?_); refine box_event ?hg (N := 1) ?hd (cs := #[.int .i64 a0_0, .int .i64 a0_1, .int .i64 a0_2, .int .i64 a0_3, .string a0_4]) (t := 44) ?hr ?_; (case hd => rfl); (case hg => rfl); (case hr => first | (go_simp; done) | (go_simp; rfl)); intro gb139 hg w9 hbox hb; have n0_ := qg5 (below_step (by repeat (first | (with_reducible first | exact HB.out | apply qd5 | apply qe5 | apply qf5) | exact HB.out)) hb); have n1_ := qg5 (hbox); have n2_ := qg5 ((by rw [hg]; exact (below_size (by repeat (first | (with_reducible first | exact HB.out | apply qd5 | apply qe5 | apply qf5) | exact HB.out))) : w.heap.size ≤ gb139)); have n3_ := qg5 ((by rw [hg]; exact (below_size (by repeat (first | (with_reducible first | exact HB.out | apply qd5 | apply qe5 | apply qf5) | exact HB.out))) : w.heap.size ≤ gb139)); clear HB; have HB := n0_; have BK139 := n1_; have GW139 := n2_; have GE139 := n3_; clear n0_ n1_ n2_ n3_; clear hb hbox hg))
            have n0_ := qg5 (blk_drew BK139.out)
            have n1_ := qg5 (qf5 HB.out)
            clear BK139
            clear HB
            have BK139 := n0_
            have HB := n1_
            clear n0_ n1_
            refine start_ (n := 9) (S := fun w' => w'.cell? ⟨gb139, 0, none⟩ = some (.int .i64 a0_0) ∧ w'.cell? ⟨gb139, 1, none⟩ = some (.int .i64 a0_1) ∧ w'.cell? ⟨gb139, 2, none⟩ = some (.int .i64 a0_2) ∧ w'.cell? ⟨gb139, 3, none⟩ = some (.int .i64 a0_3) ∧ w'.cell? ⟨gb139, 4, none⟩ = some (.string a0_4)) (ds := []) #[false, false, false, false, false, false, false, false, false] (by kernel_rfl) rfl rfl ⟨(blk_cell BK139.out 0).trans rfl, (blk_cell BK139.out 1).trans rfl, (blk_cell BK139.out 2).trans rfl, (blk_cell BK139.out 3).trans rfl, (blk_cell BK139.out 4).trans rfl⟩ (fun hHeld => ?_); refine with_tabW spec_l02Request.tab1 spec_l02Request.bits1 (fun HT_ HW_ => ?_)
            generalize w9.drew = w10 at BK139 HB hHeld ⊢
            refine pure_ (i := 0) (N := some 4) (v := ?_) (a' := ?_) #[true, false, false, false, false, false, false, false, false] rfl rfl (any_of HT_.out (by kernel_rfl)) (fun _ _ _ h => h) (Or.inl ⟨by rfl, ?_⟩) ?_ ?_
            rotate_left
            · intro w'
              go_simp
              with_reducible rfl
            rotate_left
            · simp only [Act.put, List.setIfInBounds_toArray, List.set_cons_zero, List.set_cons_succ, i64_w, i32_w]
              rfl
            refine pure_ (i := 4) (N := some 8) (v := ?_) (a' := ?_) #[true, false, false, false, true, false, false, false, false] rfl rfl (any_of HT_.out (by kernel_rfl)) (fun _ _ _ h => h) (Or.inl ⟨by rfl, ?_⟩) ?_ ?_
            rotate_left
            · intro w'
              go_simp
              with_reducible rfl
            rotate_left
            · simp only [Act.put, List.setIfInBounds_toArray, List.set_cons_zero, List.set_cons_succ, i64_w, i32_w]
              rfl
            refine take_ (i := 1) (N := some 5) (v := ?_) (a' := ?_) #[true, true, false, false, true, false, false, false, false] rfl rfl (take_ofW HT_.out HW_.out (by kernel_rfl)) (fun _ _ _ h => h) (Or.inl ⟨by rfl, ?_⟩) hHeld ?_ ?_
            rotate_left
            · rintro w' ⟨s0, s1, s2, s3, s4⟩
              go_simp
              with_reducible rfl
            rotate_left
            · simp only [Act.put, List.setIfInBounds_toArray, List.set_cons_zero, List.set_cons_succ, i64_w, i32_w]
              rfl
            refine pure_ (i := 2) (N := some 6) (v := ?_) (a' := ?_) #[true, true, true, false, true, false, false, false, false] rfl rfl (any_of HT_.out (by kernel_rfl)) (fun _ _ _ h => h) (Or.inl ⟨by rfl, ?_⟩) ?_ ?_
            rotate_left
            · intro w'
              go_simp
              with_reducible rfl
            rotate_left
            · simp only [Act.put, List.setIfInBounds_toArray, List.set_cons_zero, List.set_cons_succ, i64_w, i32_w]
              rfl
            refine take_ (i := 5) (N := some 9) (v := ?_) (a' := ?_) #[true, true, true, false, true, true, false, false, false] rfl rfl (take_ofW HT_.out HW_.out (by kernel_rfl)) (fun _ _ _ h => h) (Or.inl ⟨by rfl, ?_⟩) hHeld ?_ ?_
            rotate_left
            · rintro w' ⟨s0, s1, s2, s3, s4⟩
              go_simp
              with_reducible rfl
            rotate_left
            · simp only [Act.put, List.setIfInBounds_toArray, List.set_cons_zero, List.set_cons_succ, i64_w, i32_w]
              rfl
            refine join_ (σ := Value × Value) 2 #[true, true, true, true, true, true, true, false, false] (fun s_ => [(7, s_.1), (10, s_.2)]) (fun s_ w' => (w'.cell? ⟨gb139, 0, none⟩ = some (.int .i64 a0_0) ∧ w'.cell? ⟨gb139, 1, none⟩ = some (.int .i64 a0_1) ∧ w'.cell? ⟨gb139, 2, none⟩ = some (.int .i64 a0_2) ∧ w'.cell? ⟨gb139, 3, none⟩ = some (.int .i64 a0_3) ∧ w'.cell? ⟨gb139, 4, none⟩ = some (.string a0_4)) ∧ (Kd.R (Kd.int .u8) 5 w' w.heap.size (fun k_ => some k_ ≠ (s_.2 : Value).ownBlock) s_.1 y140) ∧ (Kd.R (Kd.int .u8) 5 w' w.heap.size (fun k_ => some k_ ≠ (s_.1 : Value).ownBlock) s_.2 t143) ∧ (w'.heap[gb139]? = some (.cells #[.int .i64 a0_0, .int .i64 a0_1, .int .i64 a0_2, .int .i64 a0_3, .string a0_4] 44 (0, 0))) ∧ (Below w.heap.size w w')) ?_ ?_
            rotate_left
            · intro hCont
              refine two_ (i := 3) (j := 6) (Ni := some 7) (Nj := some 10) #[true, true, true, true, true, true, false, false, false] #[true, true, true, false, true, true, true, false, false] rfl rfl rfl rfl (two_of HT_.out (by kernel_rfl)) (by decide) (by decide) (fun K hK => ?_) (fun K hK => ?_)
              · skip
                refine Kd.R_lit_step (Kd.int .u8) _ 5 ?hg (N := 7) ?hd (xs := ([(a0_0) % 256] : List Int)) (inner := [.int .u8 ((a0_0) % 256)]) (ok := fun _ => True) (okp := fun _ => True) ?hr ?hp (fun _ hk => hk) trivial (Below.refl _ _) (Nat.le_refl _) (by simp) ?_; (case hd => rfl); (case hg => rfl); (case hr => first | (go_simp; done) | (go_simp; rfl)); (case hp => exact (Reps.one (show Kd.M (Kd.int .u8) _ _ _ ((a0_0) % 256) [.int .u8 ((a0_0) % 256)] from rfl) (Reps.none _ _)))
                intro v141 w11 ho12 hb hg_ hnew_
                clear hg_ hnew_
                (first | rw [← Ny140.out] at ho12 | (simp only [Int.reduceToNat] at ho12; rw [← Ny140.out] at ho12))
                have n0_ := qg5 (Kd.R_lower ho12 (below_size (by repeat (first | (with_reducible first | exact HB.out | apply qd5 | apply qe5 | apply qf5 | refine below_set ?_ GE139.out) | exact HB.out))))
                have n1_ := qg5 (blk_below (g := gb139) (o := .cells #[.int .i64 a0_0, .int .i64 a0_1, .int .i64 a0_2, .int .i64 a0_3, .string a0_4] 44 (0, 0)) (by (with_reducible repeat (first | apply blk_drewN | apply blk_drew | apply blk_alloc)); exact BK139.out) hb)
                have n2_ := qg5 (below_step (by repeat (first | (with_reducible first | exact HB.out | apply qd5 | apply qe5 | apply qf5 | refine below_set ?_ GE139.out) | exact HB.out)) hb)
                clear BK139
                clear HB
                have HO142 := n0_
                have BK139 := n1_
                have HB := n2_
                clear n0_ n1_ n2_
                clear hb ho12
                refine hK.out _ _ ⟨(blk_cell BK139.out 0).trans rfl, (blk_cell BK139.out 1).trans rfl, (blk_cell BK139.out 2).trans rfl, (blk_cell BK139.out 3).trans rfl, (blk_cell BK139.out 4).trans rfl⟩ (fun hHeld => ?_)
                clear hK K
                refine norm_ (a' := ?_) ?_ ?_
                rotate_left
                · show Act.put _ (some 7) _ = _
                  simp only [Act.put, List.setIfInBounds_toArray, List.set_cons_zero, List.set_cons_succ, i64_w, i32_w]
                  rfl
                refine one_ (i := 6) (N := some 10) #[true, true, true, true, true, true, true, false, false] rfl rfl (one_of HT_.out (by kernel_rfl)) (by decide) (fun K hK => ?_)
                refine goes_ Try.func111 (by kernel_rfl) rfl #[.int .i64 a0_1, .int .i64 2] (by rfl) rfl rfl (by (try simp only [List.map_toArray, List.map_cons, List.map_nil]); first | done | rfl | (simp only [List.length_drop, List.length_take]; rfl)) ?_
                with_reducible refine (spec_l02Number.calls k a0_1 2 t143 _ A2.out).mono ?_
                rintro e w13 ⟨v144, rfl, ho0, hb⟩
                refine ⟨_, rfl, ?_⟩
                have n0_ := qg5 (Kd.R_elder' (by (with_reducible repeat (first | apply qa5 | apply qb5 | apply qc5)); exact HO142.out) (Kd.R_base ho0) hb)
                have n1_ := qg5 (Kd.R_lower (Kd.R_new' ho0 (Kd.R_lt (by (with_reducible repeat (first | apply qa5 | apply qb5 | apply qc5)); exact HO142.out))) (below_size (by repeat (first | (with_reducible first | exact HB.out | apply qd5 | apply qe5 | apply qf5 | refine below_set ?_ GE139.out) | exact HB.out))))
                have n2_ := qg5 (blk_below (g := gb139) (o := .cells #[.int .i64 a0_0, .int .i64 a0_1, .int .i64 a0_2, .int .i64 a0_3, .string a0_4] 44 (0, 0)) (by (with_reducible repeat (first | apply blk_drewN | apply blk_drew | apply blk_alloc)); exact BK139.out) hb)
                have n3_ := qg5 (below_step (by repeat (first | (with_reducible first | exact HB.out | apply qd5 | apply qe5 | apply qf5 | refine below_set ?_ GE139.out) | exact HB.out)) hb)
                clear HO142
                clear BK139
                clear HB
                have HO142 := n0_
                have HO145 := n1_
                have BK139 := n2_
                have HB := n3_
                clear n0_ n1_ n2_ n3_
                (try clear hb)
                (try clear hb2)
                (try clear hk)
                (try clear hi)
                (try clear ho0)
                refine hK.out _ _ ⟨(blk_cell BK139.out 0).trans rfl, (blk_cell BK139.out 1).trans rfl, (blk_cell BK139.out 2).trans rfl, (blk_cell BK139.out 3).trans rfl, (blk_cell BK139.out 4).trans rfl⟩ (fun hHeld => ?_)
                clear hK K
                refine norm_ (a' := ?_) ?_ ?_
                rotate_left
                · show Act.put _ (some 10) _ = _
                  simp only [Act.put, List.setIfInBounds_toArray, List.set_cons_zero, List.set_cons_succ, i64_w, i32_w]
                  rfl
                exact norm_ (by simp only [putAll, Act.put, List.setIfInBounds_toArray, List.set_cons_zero, List.set_cons_succ]) (hCont (v141, v144) _ ⟨hHeld, (by (with_reducible repeat (first | apply qa5 | apply qb5 | apply qc5)); exact Kd.R_mono HO142.out (fun _ hk => hk.2)), (by (with_reducible repeat (first | apply qa5 | apply qb5 | apply qc5)); exact Kd.R_mono HO145.out (fun _ hk => hk.2)), (by (with_reducible repeat (first | apply blk_drewN | apply blk_drew | apply blk_alloc)); exact BK139.out), (by repeat (first | (with_reducible first | exact HB.out | apply qd5 | apply qe5 | apply qf5 | refine below_set ?_ GE139.out) | exact HB.out))⟩)
              · skip
                refine goes_ Try.func111 (by kernel_rfl) rfl #[.int .i64 a0_1, .int .i64 2] (by rfl) rfl rfl (by (try simp only [List.map_toArray, List.map_cons, List.map_nil]); first | done | rfl | (simp only [List.length_drop, List.length_take]; rfl)) ?_
                with_reducible refine (spec_l02Number.calls k a0_1 2 t143 _ A2.out).mono ?_
                rintro e w11 ⟨v144, rfl, ho0, hb⟩
                refine ⟨_, rfl, ?_⟩
                have n0_ := qg5 (Kd.R_lower ho0 (below_size (by repeat (first | (with_reducible first | exact HB.out | apply qd5 | apply qe5 | apply qf5 | refine below_set ?_ GE139.out) | exact HB.out))))
                have n1_ := qg5 (blk_below (g := gb139) (o := .cells #[.int .i64 a0_0, .int .i64 a0_1, .int .i64 a0_2, .int .i64 a0_3, .string a0_4] 44 (0, 0)) (by (with_reducible repeat (first | apply blk_drewN | apply blk_drew | apply blk_alloc)); exact BK139.out) hb)
                have n2_ := qg5 (below_step (by repeat (first | (with_reducible first | exact HB.out | apply qd5 | apply qe5 | apply qf5 | refine below_set ?_ GE139.out) | exact HB.out)) hb)
                clear BK139
                clear HB
                have HO145 := n0_
                have BK139 := n1_
                have HB := n2_
                clear n0_ n1_ n2_
                (try clear hb)
                (try clear hb2)
                (try clear hk)
                (try clear hi)
                (try clear ho0)
                refine hK.out _ _ ⟨(blk_cell BK139.out 0).trans rfl, (blk_cell BK139.out 1).trans rfl, (blk_cell BK139.out 2).trans rfl, (blk_cell BK139.out 3).trans rfl, (blk_cell BK139.out 4).trans rfl⟩ (fun hHeld => ?_)
                clear hK K
                refine norm_ (a' := ?_) ?_ ?_
                rotate_left
                · show Act.put _ (some 10) _ = _
                  simp only [Act.put, List.setIfInBounds_toArray, List.set_cons_zero, List.set_cons_succ, i64_w, i32_w]
                  rfl
                refine one_ (i := 3) (N := some 7) #[true, true, true, true, true, true, true, false, false] rfl rfl (one_of HT_.out (by kernel_rfl)) (by decide) (fun K hK => ?_)
                refine Kd.R_lit_step (Kd.int .u8) _ 5 ?hg (N := 7) ?hd (xs := ([(a0_0) % 256] : List Int)) (inner := [.int .u8 ((a0_0) % 256)]) (ok := fun _ => True) (okp := fun _ => True) ?hr ?hp (fun _ hk => hk) trivial (Below.refl _ _) (Nat.le_refl _) (by simp) ?_; (case hd => rfl); (case hg => rfl); (case hr => first | (go_simp; done) | (go_simp; rfl)); (case hp => exact (Reps.one (show Kd.M (Kd.int .u8) _ _ _ ((a0_0) % 256) [.int .u8 ((a0_0) % 256)] from rfl) (Reps.none _ _)))
                intro v141 w12 ho13 hb hg_ hnew_
                clear hg_ hnew_
                (first | rw [← Ny140.out] at ho13 | (simp only [Int.reduceToNat] at ho13; rw [← Ny140.out] at ho13))
                have n0_ := qg5 (Kd.R_elder' (by (with_reducible repeat (first | apply qa5 | apply qb5 | apply qc5)); exact HO145.out) (Kd.R_base ho13) hb)
                have n1_ := qg5 (Kd.R_lower (Kd.R_new' ho13 (Kd.R_lt (by (with_reducible repeat (first | apply qa5 | apply qb5 | apply qc5)); exact HO145.out))) (below_size (by repeat (first | (with_reducible first | exact HB.out | apply qd5 | apply qe5 | apply qf5 | refine below_set ?_ GE139.out) | exact HB.out))))
                have n2_ := qg5 (blk_below (g := gb139) (o := .cells #[.int .i64 a0_0, .int .i64 a0_1, .int .i64 a0_2, .int .i64 a0_3, .string a0_4] 44 (0, 0)) (by (with_reducible repeat (first | apply blk_drewN | apply blk_drew | apply blk_alloc)); exact BK139.out) hb)
                have n3_ := qg5 (below_step (by repeat (first | (with_reducible first | exact HB.out | apply qd5 | apply qe5 | apply qf5 | refine below_set ?_ GE139.out) | exact HB.out)) hb)
                clear HO145
                clear BK139
                clear HB
                have HO145 := n0_
                have HO142 := n1_
                have BK139 := n2_
                have HB := n3_
                clear n0_ n1_ n2_ n3_
                clear hb ho13
                refine hK.out _ _ ⟨(blk_cell BK139.out 0).trans rfl, (blk_cell BK139.out 1).trans rfl, (blk_cell BK139.out 2).trans rfl, (blk_cell BK139.out 3).trans rfl, (blk_cell BK139.out 4).trans rfl⟩ (fun hHeld => ?_)
                clear hK K
                refine norm_ (a' := ?_) ?_ ?_
                rotate_left
                · show Act.put _ (some 7) _ = _
                  simp only [Act.put, List.setIfInBounds_toArray, List.set_cons_zero, List.set_cons_succ, i64_w, i32_w]
                  rfl
                exact norm_ (by simp only [putAll, Act.put, List.setIfInBounds_toArray, List.set_cons_zero, List.set_cons_succ]) (hCont (v141, v144) _ ⟨hHeld, (by (with_reducible repeat (first | apply qa5 | apply qb5 | apply qc5)); exact Kd.R_mono HO142.out (fun _ hk => hk.2)), (by (with_reducible repeat (first | apply qa5 | apply qb5 | apply qc5)); exact Kd.R_mono HO145.out (fun _ hk => hk.2)), (by (with_reducible repeat (first | apply blk_drewN | apply blk_drew | apply blk_alloc)); exact BK139.out), (by repeat (first | (with_reducible first | exact HB.out | apply qd5 | apply qe5 | apply qf5 | refine below_set ?_ GE139.out) | exact HB.out))⟩)
            rintro ⟨v141, v144⟩ w14 ⟨hS_, h0_, h1_, h2_, h3_⟩
            have n0_ : Aside0 (Kd.R (Kd.int .u8) 5 w14 w.heap.size (fun k_ => some k_ ≠ (v144 : Value).ownBlock) v141 y140) := ⟨h0_⟩
            have n1_ : Aside0 (Kd.R (Kd.int .u8) 5 w14 w.heap.size (fun k_ => some k_ ≠ (v141 : Value).ownBlock) v144 t143) := ⟨h1_⟩
            have n2_ : Aside0 (w14.heap[gb139]? = some (.cells #[.int .i64 a0_0, .int .i64 a0_1, .int .i64 a0_2, .int .i64 a0_3, .string a0_4] 44 (0, 0))) := ⟨h2_⟩
            have n3_ : Aside0 (Below w.heap.size w w14) := ⟨h3_⟩
            clear BK139
            clear HB
            clear h0_ h1_ h2_ h3_
            have HO142 := n0_
            have HO145 := n1_
            have BK139 := n2_
            have HB := n3_
            clear n0_ n1_ n2_ n3_
            have hHeld : w14.cell? ⟨gb139, 0, none⟩ = some (.int .i64 a0_0) ∧ w14.cell? ⟨gb139, 1, none⟩ = some (.int .i64 a0_1) ∧ w14.cell? ⟨gb139, 2, none⟩ = some (.int .i64 a0_2) ∧ w14.cell? ⟨gb139, 3, none⟩ = some (.int .i64 a0_3) ∧ w14.cell? ⟨gb139, 4, none⟩ = some (.string a0_4) := hS_
            obtain ⟨Ao16, co16, eo16⟩ := Kd.R_slice HO145.out
            (first | subst eo16 | (injection eo16 with f1_ f2_ f3_; have f4_ := f1_.symm; have f5_ := f3_.symm; clear f1_ f2_ f3_; subst f4_; subst f5_))
            refine norm_ (a' := ?_) ?_ ?_
            rotate_left
            · simp only [putAll, Act.put, List.setIfInBounds_toArray, List.set_cons_zero, List.set_cons_succ]
              rfl
            refine one_ (i := 7) (N := some 11) #[true, true, true, true, true, true, true, true, false] rfl rfl (one_of HT_.out (by kernel_rfl)) (by decide) (fun K hK => ?_)
            refine Kd.R_append_rows_step (Kd.int .u8) (w0 := w) w.heap.size (by rfl) (.tmp 7) (.tmp 10) 26 5 (.int .u8 0) 1 rfl Try.underlying26 info5 rfl (by decide) (by omega) v141 y140 t143 _ _ _ (fun k_ => some k_ ≠ (.slice Ao16 t143.length co16 : Value).ownBlock) (fun _ => False) rfl rfl ?aO ?aR (fun _ _ h => h) (fun _ h => h.elim) ?aF ?aB ?aS ?aL ?_
            (case aR => repeat (first | exact (Kd.R_reads' HO145.out).2.2 | (with_reducible refine Kd.C_alloc ?_ _) | (with_reducible refine Kd.C_drewN ?_ _) | (with_reducible refine Kd.C_drew ?_)))
            (case aB => exact (by repeat (first | (with_reducible first | exact HB.out | apply qd5 | apply qe5 | apply qf5 | refine below_set ?_ GE139.out) | exact HB.out)))
            (case aF => exact (fun k_ hk => Kd.fresh' (Kd.R_lt (by (with_reducible repeat (first | apply qa5 | apply qb5 | apply qc5)); exact HO145.out)) k_ hk))
            (case aO => exact (by (with_reducible repeat (first | apply qa5 | apply qb5 | apply qc5)); exact HO142.out))
            (case aS => exact (below_size (by repeat (first | (with_reducible first | exact HB.out | apply qd5 | apply qe5 | apply qf5 | refine below_set ?_ GE139.out) | exact HB.out))))
            (case aL => have := LMc3.out; omega)
            intro v147 w15 ho hb hg hat
            rw [← Ny146.out] at ho
            have n0_ := qg5 (blk_grown (g := gb139) (o := .cells #[.int .i64 a0_0, .int .i64 a0_1, .int .i64 a0_2, .int .i64 a0_3, .string a0_4] 44 (0, 0)) (by (with_reducible repeat (first | apply blk_drewN | apply blk_drew | apply blk_alloc)); exact BK139.out) hg (Kd.R_ne HO142.out BK139.out (by decide)))
            have n1_ := qg5 (Kd.R_after (ok := (fun _ => True)) (by (with_reducible repeat (first | apply qa5 | apply qb5 | apply qc5)); exact Kd.R_mono HO145.out (fun _ hk => ⟨trivial, hk⟩)) hg hat)
            have n2_ := qg5 (hb)
            have n3_ := qg5 (ho)
            clear BK139
            clear HO145
            clear HB
            clear HO142
            have BK139 := n0_
            have HO145 := n1_
            have HB := n2_
            have HO148 := n3_
            clear n0_ n1_ n2_ n3_
            clear ho hb hg hat
            refine hK.out _ _ ⟨(blk_cell BK139.out 0).trans rfl, (blk_cell BK139.out 1).trans rfl, (blk_cell BK139.out 2).trans rfl, (blk_cell BK139.out 3).trans rfl, (blk_cell BK139.out 4).trans rfl⟩ (fun hHeld => ?_)
            clear hK K
            refine norm_ (a' := ?_) ?_ ?_
            rotate_left
            · show Act.put _ (some 11) _ = _
              simp only [Act.put, List.setIfInBounds_toArray, List.set_cons_zero, List.set_cons_succ, i64_w, i32_w]
              rfl
            refine pure_ (i := 8) (N := some 3) (v := ?_) (a' := ?_) #[true, true, true, true, true, true, true, true, true] rfl rfl (any_of HT_.out (by kernel_rfl)) (fun _ _ _ h => h) (Or.inl ⟨by rfl, ?_⟩) ?_ ?_
            rotate_left
            · intro w'
              go_simp
              with_reducible rfl
            rotate_left
            · simp only [Act.put, List.setIfInBounds_toArray, List.set_cons_zero, List.set_cons_succ, i64_w, i32_w]
              rfl
            refine done_ (done_of HT_.out (by kernel_rfl)) ?_
            try go_wp2
            have n0_ := qg5 (qc5 HO145.out)
            have n1_ := qg5 (qc5 HO148.out)
            have n2_ := qg5 (blk_drew BK139.out)
            have n3_ := qg5 (qf5 HB.out)
            clear HO145
            clear HO148
            clear BK139
            clear HB
            have HO145 := n0_
            have HO148 := n1_
            have BK139 := n2_
            have HB := n3_
            clear n0_ n1_ n2_ n3_
            refine start_ (n := 11) (S := fun w' => w'.cell? ⟨gb139, 0, none⟩ = some (.int .i64 a0_0) ∧ w'.cell? ⟨gb139, 1, none⟩ = some (.int .i64 a0_1) ∧ w'.cell? ⟨gb139, 2, none⟩ = some (.int .i64 a0_2) ∧ w'.cell? ⟨gb139, 3, none⟩ = some (.int .i64 a0_3) ∧ w'.cell? ⟨gb139, 4, none⟩ = some (.string a0_4)) (ds := []) #[false, false, false, false, false, false, false, false, false, false, false] (by kernel_rfl) rfl rfl ⟨(blk_cell BK139.out 0).trans rfl, (blk_cell BK139.out 1).trans rfl, (blk_cell BK139.out 2).trans rfl, (blk_cell BK139.out 3).trans rfl, (blk_cell BK139.out 4).trans rfl⟩ (fun hHeld => ?_); refine with_tabW spec_l02Request.tab2 spec_l02Request.bits2 (fun HT_ HW_ => ?_)
            generalize w15.drew = w17 at HO145 HO148 BK139 HB hHeld ⊢
            refine pure_ (i := 0) (N := some 12) (v := ?_) (a' := ?_) #[true, false, false, false, false, false, false, false, false, false, false] rfl rfl (any_of HT_.out (by kernel_rfl)) (fun _ _ _ h => h) (Or.inl ⟨by rfl, ?_⟩) ?_ ?_
            rotate_left
            · intro w'
              go_simp
              with_reducible rfl
            rotate_left
            · simp only [Act.put, List.setIfInBounds_toArray, List.set_cons_zero, List.set_cons_succ, i64_w, i32_w]
              rfl
            refine pure_ (i := 1) (N := some 13) (v := ?_) (a' := ?_) #[true, true, false, false, false, false, false, false, false, false, false] rfl rfl (any_of HT_.out (by kernel_rfl)) (fun _ _ _ h => h) (Or.inl ⟨by rfl, ?_⟩) ?_ ?_
            rotate_left
            · intro w'
              go_simp
              with_reducible rfl
            rotate_left
            · simp only [Act.put, List.setIfInBounds_toArray, List.set_cons_zero, List.set_cons_succ, i64_w, i32_w]
              rfl
            refine pure_ (i := 6) (N := some 18) (v := ?_) (a' := ?_) #[true, true, false, false, false, false, true, false, false, false, false] rfl rfl (any_of HT_.out (by kernel_rfl)) (fun _ _ _ h => h) (Or.inl ⟨by rfl, ?_⟩) ?_ ?_
            rotate_left
            · intro w'
              go_simp
              with_reducible rfl
            rotate_left
            · simp only [Act.put, List.setIfInBounds_toArray, List.set_cons_zero, List.set_cons_succ, i64_w, i32_w]
              rfl
            refine take_ (i := 2) (N := some 14) (v := ?_) (a' := ?_) #[true, true, true, false, false, false, true, false, false, false, false] rfl rfl (take_ofW HT_.out HW_.out (by kernel_rfl)) (fun _ _ _ h => h) (Or.inl ⟨by rfl, ?_⟩) hHeld ?_ ?_
            rotate_left
            · rintro w' ⟨s0, s1, s2, s3, s4⟩
              go_simp
              with_reducible rfl
            rotate_left
            · simp only [Act.put, List.setIfInBounds_toArray, List.set_cons_zero, List.set_cons_succ, i64_w, i32_w]
              rfl
            refine pure_ (i := 3) (N := some 15) (v := ?_) (a' := ?_) #[true, true, true, true, false, false, true, false, false, false, false] rfl rfl (any_of HT_.out (by kernel_rfl)) (fun _ _ _ h => h) (Or.inl ⟨by rfl, ?_⟩) ?_ ?_
            rotate_left
            · intro w'
              go_simp
              with_reducible rfl
            rotate_left
            · simp only [Act.put, List.setIfInBounds_toArray, List.set_cons_zero, List.set_cons_succ, i64_w, i32_w]
              rfl
            refine take_ (i := 7) (N := some 19) (v := ?_) (a' := ?_) #[true, true, true, true, false, false, true, true, false, false, false] rfl rfl (take_ofW HT_.out HW_.out (by kernel_rfl)) (fun _ _ _ h => h) (Or.inl ⟨by rfl, ?_⟩) hHeld ?_ ?_
            rotate_left
            · rintro w' ⟨s0, s1, s2, s3, s4⟩
              go_simp
              with_reducible rfl
            rotate_left
            · simp only [Act.put, List.setIfInBounds_toArray, List.set_cons_zero, List.set_cons_succ, i64_w, i32_w]
              rfl
            refine one_ (i := 4) (N := some 16) #[true, true, true, true, true, false, true, true, false, false, false] rfl rfl (one_of HT_.out (by kernel_rfl)) (by decide) (fun K hK => ?_)
            refine value_ (w1 := ?_) (v := ?_) (by rfl) rfl ?_ ?_
            rotate_left 2
            · go_simp
              constructor
              · rfl
              · rfl
            refine hK.out _ _ ⟨(blk_cell (blk_alloc BK139.out _) 0).trans rfl, (blk_cell (blk_alloc BK139.out _) 1).trans rfl, (blk_cell (blk_alloc BK139.out _) 2).trans rfl, (blk_cell (blk_alloc BK139.out _) 3).trans rfl, (blk_cell (blk_alloc BK139.out _) 4).trans rfl⟩ (fun hHeld => ?_)
            clear hK K
            refine norm_ (a' := ?_) ?_ ?_
            rotate_left
            · show Act.put _ (some 16) _ = _
              simp only [Act.put, List.setIfInBounds_toArray, List.set_cons_zero, List.set_cons_succ, i64_w, i32_w]
              rfl
            refine one_ (i := 5) (N := some 17) #[true, true, true, true, true, true, true, true, false, false, false] rfl rfl (one_of HT_.out (by kernel_rfl)) (by decide) (fun K hK => ?_)
            refine Kd.R_append_step (Kd.int .u8) (w0 := w) w.heap.size (by rfl) (.tmp 12) (.tmp 16) 26 5 (.int .u8 0) 1 rfl Try.underlying26 info5 rfl (by decide) (by omega) v147 y146 ((a0_2) % 256) [.int .u8 ((a0_2) % 256)] (fun k_ => some k_ ≠ (.slice Ao16 t143.length co16 : Value).ownBlock) (fun _ => False) rfl rfl ?aP (fun _ hk => hk.elim) ?aF ?aO ?aB ?aS ?aL ?_
            (case aP => exact rfl)
            (case aB => exact (by repeat (first | (with_reducible first | exact HB.out | apply qd5 | apply qe5 | apply qf5 | refine below_set ?_ GE139.out) | exact HB.out)))
            (case aF => exact (fun k_ hk => Kd.fresh' (Kd.R_lt (by (with_reducible repeat (first | apply qa5 | apply qb5 | apply qc5)); exact HO145.out)) k_ hk))
            (case aO => exact (by (with_reducible repeat (first | apply qa5 | apply qb5 | apply qc5)); exact HO148.out))
            (case aS => exact (below_size (by repeat (first | (with_reducible first | exact HB.out | apply qd5 | apply qe5 | apply qf5 | refine below_set ?_ GE139.out) | exact HB.out))))
            (case aL => have := LMc4.out; omega)
            intro v150 w18 ho hb hg hat
            rw [← Ny149.out] at ho
            have n0_ := qg5 (blk_grown (g := gb139) (o := .cells #[.int .i64 a0_0, .int .i64 a0_1, .int .i64 a0_2, .int .i64 a0_3, .string a0_4] 44 (0, 0)) (by (with_reducible repeat (first | apply blk_drewN | apply blk_drew | apply blk_alloc)); exact BK139.out) hg (Kd.R_ne HO148.out BK139.out (by decide)))
            have n1_ := qg5 (Kd.R_after (ok := (fun _ => True)) (by (with_reducible repeat (first | apply qa5 | apply qb5 | apply qc5)); exact HO145.out) hg hat)
            have n2_ := qg5 (hb)
            have n3_ := qg5 (ho)
            clear BK139
            clear HO145
            clear HB
            clear HO148
            have BK139 := n0_
            have HO145 := n1_
            have HB := n2_
            have HO151 := n3_
            clear n0_ n1_ n2_ n3_
            clear ho hb hg hat
            refine hK.out _ _ ⟨(blk_cell BK139.out 0).trans rfl, (blk_cell BK139.out 1).trans rfl, (blk_cell BK139.out 2).trans rfl, (blk_cell BK139.out 3).trans rfl, (blk_cell BK139.out 4).trans rfl⟩ (fun hHeld => ?_)
            clear hK K
            refine norm_ (a' := ?_) ?_ ?_
            rotate_left
            · show Act.put _ (some 17) _ = _
              simp only [Act.put, List.setIfInBounds_toArray, List.set_cons_zero, List.set_cons_succ, i64_w, i32_w]
              rfl
            refine one_ (i := 8) (N := some 20) #[true, true, true, true, true, true, true, true, true, false, false] rfl rfl (one_of HT_.out (by kernel_rfl)) (by decide) (fun K hK => ?_)
            refine goes_ Try.func111 (by kernel_rfl) rfl #[.int .i64 a0_3, .int .i64 2] (by rfl) rfl rfl (by (try simp only [List.map_toArray, List.map_cons, List.map_nil]); first | done | rfl | (simp only [List.length_drop, List.length_take]; rfl)) ?_
            with_reducible refine (spec_l02Number.calls k a0_3 2 t152 _ A5.out).mono ?_
            rintro e w19 ⟨v153, rfl, ho0, hb⟩
            refine ⟨_, rfl, ?_⟩
            have n0_ := qg5 (Kd.R_elder' (by (with_reducible repeat (first | apply qa5 | apply qb5 | apply qc5)); exact HO145.out) (Kd.R_base ho0) hb)
            have n1_ := qg5 (Kd.R_elder' (by (with_reducible repeat (first | apply qa5 | apply qb5 | apply qc5)); exact HO151.out) (Kd.R_base ho0) hb)
            have n2_ := qg5 (Kd.R_lower (Kd.R_new' (Kd.R_new' ho0 (Kd.R_lt (by (with_reducible repeat (first | apply qa5 | apply qb5 | apply qc5)); exact HO145.out))) (Kd.R_lt (by (with_reducible repeat (first | apply qa5 | apply qb5 | apply qc5)); exact HO151.out))) (below_size (by repeat (first | (with_reducible first | exact HB.out | apply qd5 | apply qe5 | apply qf5 | refine below_set ?_ GE139.out) | exact HB.out))))
            have n3_ := qg5 (blk_below (g := gb139) (o := .cells #[.int .i64 a0_0, .int .i64 a0_1, .int .i64 a0_2, .int .i64 a0_3, .string a0_4] 44 (0, 0)) (by (with_reducible repeat (first | apply blk_drewN | apply blk_drew | apply blk_alloc)); exact BK139.out) hb)
            have n4_ := qg5 (below_step (by repeat (first | (with_reducible first | exact HB.out | apply qd5 | apply qe5 | apply qf5 | refine below_set ?_ GE139.out) | exact HB.out)) hb)
            clear HO145
            clear HO151
            clear BK139
            clear HB
            have HO145 := n0_
            have HO151 := n1_
            have HO154 := n2_
            have BK139 := n3_
            have HB := n4_
            clear n0_ n1_ n2_ n3_ n4_
            (try clear hb)
            (try clear hb2)
            (try clear hk)
            (try clear hi)
            (try clear ho0)
            obtain ⟨Ao21, co21, eo21⟩ := Kd.R_slice HO154.out
            (first | subst eo21 | (injection eo21 with f1_ f2_ f3_; have f4_ := f1_.symm; have f5_ := f3_.symm; clear f1_ f2_ f3_; subst f4_; subst f5_))
            refine hK.out _ _ ⟨(blk_cell BK139.out 0).trans rfl, (blk_cell BK139.out 1).trans rfl, (blk_cell BK139.out 2).trans rfl, (blk_cell BK139.out 3).trans rfl, (blk_cell BK139.out 4).trans rfl⟩ (fun hHeld => ?_)
            clear hK K
            refine norm_ (a' := ?_) ?_ ?_
            rotate_left
            · show Act.put _ (some 20) _ = _
              simp only [Act.put, List.setIfInBounds_toArray, List.set_cons_zero, List.set_cons_succ, i64_w, i32_w]
              rfl
            refine one_ (i := 9) (N := some 21) #[true, true, true, true, true, true, true, true, true, true, false] rfl rfl (one_of HT_.out (by kernel_rfl)) (by decide) (fun K hK => ?_)
            refine Kd.R_append_rows_step (Kd.int .u8) (w0 := w) w.heap.size (by rfl) (.tmp 17) (.tmp 20) 26 5 (.int .u8 0) 1 rfl Try.underlying26 info5 rfl (by decide) (by omega) v150 y149 t152 _ _ _ (fun k_ => some k_ ≠ (.slice Ao16 t143.length co16 : Value).ownBlock ∧ some k_ ≠ (.slice Ao21 t152.length co21 : Value).ownBlock) (fun _ => False) rfl rfl ?aO ?aR (fun _ _ h => h) (fun _ h => h.elim) ?aF ?aB ?aS ?aL ?_
            (case aR => repeat (first | exact (Kd.R_reads' HO154.out).2.2 | (with_reducible refine Kd.C_alloc ?_ _) | (with_reducible refine Kd.C_drewN ?_ _) | (with_reducible refine Kd.C_drew ?_)))
            (case aB => exact (by repeat (first | (with_reducible first | exact HB.out | apply qd5 | apply qe5 | apply qf5 | refine below_set ?_ GE139.out) | exact HB.out)))
            (case aF => exact (fun k_ hk => ⟨Kd.fresh' (Kd.R_lt (by (with_reducible repeat (first | apply qa5 | apply qb5 | apply qc5)); exact HO145.out)) k_ hk, Kd.fresh' (Kd.R_lt (by (with_reducible repeat (first | apply qa5 | apply qb5 | apply qc5)); exact HO154.out)) k_ hk⟩))
            (case aO => exact (by (with_reducible repeat (first | apply qa5 | apply qb5 | apply qc5)); exact HO151.out))
            (case aS => exact (below_size (by repeat (first | (with_reducible first | exact HB.out | apply qd5 | apply qe5 | apply qf5 | refine below_set ?_ GE139.out) | exact HB.out))))
            (case aL => have := LMc6.out; omega)
            intro v156 w20 ho hb hg hat
            rw [← Ny155.out] at ho
            have n0_ := qg5 (blk_grown (g := gb139) (o := .cells #[.int .i64 a0_0, .int .i64 a0_1, .int .i64 a0_2, .int .i64 a0_3, .string a0_4] 44 (0, 0)) (by (with_reducible repeat (first | apply blk_drewN | apply blk_drew | apply blk_alloc)); exact BK139.out) hg (Kd.R_ne HO151.out BK139.out (by decide)))
            have n1_ := qg5 (Kd.R_after (ok := (fun k_ => some k_ ≠ (.slice Ao21 t152.length co21 : Value).ownBlock)) (by (with_reducible repeat (first | apply qa5 | apply qb5 | apply qc5)); exact Kd.R_mono HO145.out (fun _ hk => ⟨hk.2, hk.1.2⟩)) hg hat)
            have n2_ := qg5 (Kd.R_after (ok := (fun k_ => some k_ ≠ (.slice Ao16 t143.length co16 : Value).ownBlock)) (by (with_reducible repeat (first | apply qa5 | apply qb5 | apply qc5)); exact Kd.R_mono HO154.out (fun _ hk => ⟨hk.1.2, hk.2⟩)) hg hat)
            have n3_ := qg5 (hb)
            have n4_ := qg5 (ho)
            clear BK139
            clear HO145
            clear HO154
            clear HB
            clear HO151
            have BK139 := n0_
            have HO145 := n1_
            have HO154 := n2_
            have HB := n3_
            have HO157 := n4_
            clear n0_ n1_ n2_ n3_ n4_
            clear ho hb hg hat
            refine hK.out _ _ ⟨(blk_cell BK139.out 0).trans rfl, (blk_cell BK139.out 1).trans rfl, (blk_cell BK139.out 2).trans rfl, (blk_cell BK139.out 3).trans rfl, (blk_cell BK139.out 4).trans rfl⟩ (fun hHeld => ?_)
            clear hK K
            refine norm_ (a' := ?_) ?_ ?_
            rotate_left
            · show Act.put _ (some 21) _ = _
              simp only [Act.put, List.setIfInBounds_toArray, List.set_cons_zero, List.set_cons_succ, i64_w, i32_w]
              rfl
            refine pure_ (i := 10) (N := some 3) (v := ?_) (a' := ?_) #[true, true, true, true, true, true, true, true, true, true, true] rfl rfl (any_of HT_.out (by kernel_rfl)) (fun _ _ _ h => h) (Or.inl ⟨by rfl, ?_⟩) ?_ ?_
            rotate_left
            · intro w'
              go_simp
              with_reducible rfl
            rotate_left
            · simp only [Act.put, List.setIfInBounds_toArray, List.set_cons_zero, List.set_cons_succ, i64_w, i32_w]
              rfl
            refine done_ (done_of HT_.out (by kernel_rfl)) ?_
            try go_wp2
            have n0_ := qg5 (qc5 HO145.out)
            have n1_ := qg5 (qc5 HO154.out)
            have n2_ := qg5 (qc5 HO157.out)
            have n3_ := qg5 (blk_drew BK139.out)
            have n4_ := qg5 (qf5 HB.out)
            clear HO145
            clear HO154
            clear HO157
            clear BK139
            clear HB
            have HO145 := n0_
            have HO154 := n1_
            have HO157 := n2_
            have BK139 := n3_
            have HB := n4_
            clear n0_ n1_ n2_ n3_ n4_
            refine start_ (n := 11) (S := fun w' => w'.cell? ⟨gb139, 0, none⟩ = some (.int .i64 a0_0) ∧ w'.cell? ⟨gb139, 1, none⟩ = some (.int .i64 a0_1) ∧ w'.cell? ⟨gb139, 2, none⟩ = some (.int .i64 a0_2) ∧ w'.cell? ⟨gb139, 3, none⟩ = some (.int .i64 a0_3) ∧ w'.cell? ⟨gb139, 4, none⟩ = some (.string a0_4)) (ds := []) #[false, false, false, false, false, false, false, false, false, false, false] (by kernel_rfl) rfl rfl ⟨(blk_cell BK139.out 0).trans rfl, (blk_cell BK139.out 1).trans rfl, (blk_cell BK139.out 2).trans rfl, (blk_cell BK139.out 3).trans rfl, (blk_cell BK139.out 4).trans rfl⟩ (fun hHeld => ?_); refine with_tabW spec_l02Request.tab3 spec_l02Request.bits3 (fun HT_ HW_ => ?_)
            generalize w20.drew = w22 at HO145 HO154 HO157 BK139 HB hHeld ⊢
            refine pure_ (i := 0) (N := some 22) (v := ?_) (a' := ?_) #[true, false, false, false, false, false, false, false, false, false, false] rfl rfl (any_of HT_.out (by kernel_rfl)) (fun _ _ _ h => h) (Or.inl ⟨by rfl, ?_⟩) ?_ ?_
            rotate_left
            · intro w'
              go_simp
              with_reducible rfl
            rotate_left
            · simp only [Act.put, List.setIfInBounds_toArray, List.set_cons_zero, List.set_cons_succ, i64_w, i32_w]
              rfl
            refine pure_ (i := 1) (N := some 23) (v := ?_) (a' := ?_) #[true, true, false, false, false, false, false, false, false, false, false] rfl rfl (any_of HT_.out (by kernel_rfl)) (fun _ _ _ h => h) (Or.inl ⟨by rfl, ?_⟩) ?_ ?_
            rotate_left
            · intro w'
              go_simp
              with_reducible rfl
            rotate_left
            · simp only [Act.put, List.setIfInBounds_toArray, List.set_cons_zero, List.set_cons_succ, i64_w, i32_w]
              rfl
            refine pure_ (i := 7) (N := some 29) (v := ?_) (a' := ?_) #[true, true, false, false, false, false, false, true, false, false, false] rfl rfl (any_of HT_.out (by kernel_rfl)) (fun _ _ _ h => h) (Or.inl ⟨by rfl, ?_⟩) ?_ ?_
            rotate_left
            · intro w'
              go_simp
              with_reducible rfl
            rotate_left
            · simp only [Act.put, List.setIfInBounds_toArray, List.set_cons_zero, List.set_cons_succ, i64_w, i32_w]
              rfl
            refine take_ (i := 2) (N := some 24) (v := ?_) (a' := ?_) #[true, true, true, false, false, false, false, true, false, false, false] rfl rfl (take_ofW HT_.out HW_.out (by kernel_rfl)) (fun _ _ _ h => h) (Or.inl ⟨by rfl, ?_⟩) hHeld ?_ ?_
            rotate_left
            · rintro w' ⟨s0, s1, s2, s3, s4⟩
              go_simp
              with_reducible rfl
            rotate_left
            · simp only [Act.put, List.setIfInBounds_toArray, List.set_cons_zero, List.set_cons_succ, i64_w, i32_w]
              rfl
            refine pure_ (i := 3) (N := some 25) (v := ?_) (a' := ?_) #[true, true, true, true, false, false, false, true, false, false, false] rfl rfl (any_of HT_.out (by kernel_rfl)) (fun _ _ _ h => h) (Or.inl ⟨by rfl, ?_⟩) ?_ ?_
            rotate_left
            · intro w'
              go_simp
              with_reducible rfl
            rotate_left
            · simp only [Act.put, List.setIfInBounds_toArray, List.set_cons_zero, List.set_cons_succ, i64_w, i32_w]
              rfl
            refine pure_ (i := 4) (N := some 26) (v := ?_) (a' := ?_) #[true, true, true, true, true, false, false, true, false, false, false] rfl rfl (any_of HT_.out (by kernel_rfl)) (fun _ _ _ h => h) (Or.inl ⟨by rfl, ?_⟩) ?_ ?_
            rotate_left
            · intro w'
              go_simp
              with_reducible rfl
            rotate_left
            · simp only [Act.put, List.setIfInBounds_toArray, List.set_cons_zero, List.set_cons_succ, i64_w, i32_w]
              rfl
            refine take_ (i := 8) (N := some 30) (v := ?_) (a' := ?_) #[true, true, true, true, true, false, false, true, true, false, false] rfl rfl (take_ofW HT_.out HW_.out (by kernel_rfl)) (fun _ _ _ h => h) (Or.inl ⟨by rfl, ?_⟩) hHeld ?_ ?_
            rotate_left
            · rintro w' ⟨s0, s1, s2, s3, s4⟩
              go_simp
              with_reducible rfl
            rotate_left
            · simp only [Act.put, List.setIfInBounds_toArray, List.set_cons_zero, List.set_cons_succ, i64_w, i32_w]
              rfl
            refine one_ (i := 5) (N := some 27) #[true, true, true, true, true, true, false, true, true, false, false] rfl rfl (one_of HT_.out (by kernel_rfl)) (by decide) (fun K hK => ?_)
            refine value_ (w1 := ?_) (v := ?_) (by rfl) rfl ?_ ?_
            rotate_left 2
            · go_simp
              constructor
              · rfl
              · rfl
            refine hK.out _ _ ⟨(blk_cell (blk_alloc BK139.out _) 0).trans rfl, (blk_cell (blk_alloc BK139.out _) 1).trans rfl, (blk_cell (blk_alloc BK139.out _) 2).trans rfl, (blk_cell (blk_alloc BK139.out _) 3).trans rfl, (blk_cell (blk_alloc BK139.out _) 4).trans rfl⟩ (fun hHeld => ?_)
            clear hK K
            refine norm_ (a' := ?_) ?_ ?_
            rotate_left
            · show Act.put _ (some 27) _ = _
              simp only [Act.put, List.setIfInBounds_toArray, List.set_cons_zero, List.set_cons_succ, i64_w, i32_w]
              rfl
            refine one_ (i := 6) (N := some 28) #[true, true, true, true, true, true, true, true, true, false, false] rfl rfl (one_of HT_.out (by kernel_rfl)) (by decide) (fun K hK => ?_)
            refine Kd.R_append_step (Kd.int .u8) (w0 := w) w.heap.size (by rfl) (.tmp 22) (.tmp 27) 26 5 (.int .u8 0) 1 rfl Try.underlying26 info5 rfl (by decide) (by omega) v156 y155 (((a0_4.size : Int)) % 256) [.int .u8 (((a0_4.size : Int)) % 256)] (fun k_ => some k_ ≠ (.slice Ao16 t143.length co16 : Value).ownBlock ∧ some k_ ≠ (.slice Ao21 t152.length co21 : Value).ownBlock) (fun _ => False) rfl rfl ?aP (fun _ hk => hk.elim) ?aF ?aO ?aB ?aS ?aL ?_
            (case aP => exact rfl)
            (case aB => exact (by repeat (first | (with_reducible first | exact HB.out | apply qd5 | apply qe5 | apply qf5 | refine below_set ?_ GE139.out) | exact HB.out)))
            (case aF => exact (fun k_ hk => ⟨Kd.fresh' (Kd.R_lt (by (with_reducible repeat (first | apply qa5 | apply qb5 | apply qc5)); exact HO145.out)) k_ hk, Kd.fresh' (Kd.R_lt (by (with_reducible repeat (first | apply qa5 | apply qb5 | apply qc5)); exact HO154.out)) k_ hk⟩))
            (case aO => exact (by (with_reducible repeat (first | apply qa5 | apply qb5 | apply qc5)); exact HO157.out))
            (case aS => exact (below_size (by repeat (first | (with_reducible first | exact HB.out | apply qd5 | apply qe5 | apply qf5 | refine below_set ?_ GE139.out) | exact HB.out))))
            (case aL => have := LMc7.out; omega)
            intro v159 w23 ho hb hg hat
            rw [← Ny158.out] at ho
            have n0_ := qg5 (blk_grown (g := gb139) (o := .cells #[.int .i64 a0_0, .int .i64 a0_1, .int .i64 a0_2, .int .i64 a0_3, .string a0_4] 44 (0, 0)) (by (with_reducible repeat (first | apply blk_drewN | apply blk_drew | apply blk_alloc)); exact BK139.out) hg (Kd.R_ne HO157.out BK139.out (by decide)))
            have n1_ := qg5 (Kd.R_after (ok := (fun k_ => some k_ ≠ (.slice Ao21 t152.length co21 : Value).ownBlock)) (by (with_reducible repeat (first | apply qa5 | apply qb5 | apply qc5)); exact HO145.out) hg hat)
            have n2_ := qg5 (Kd.R_after (ok := (fun k_ => some k_ ≠ (.slice Ao16 t143.length co16 : Value).ownBlock)) (by (with_reducible repeat (first | apply qa5 | apply qb5 | apply qc5)); exact HO154.out) hg hat)
            have n3_ := qg5 (hb)
            have n4_ := qg5 (ho)
            clear BK139
            clear HO145
            clear HO154
            clear HB
            clear HO157
            have BK139 := n0_
            have HO145 := n1_
            have HO154 := n2_
            have HB := n3_
            have HO160 := n4_
            clear n0_ n1_ n2_ n3_ n4_
            clear ho hb hg hat
            refine hK.out _ _ ⟨(blk_cell BK139.out 0).trans rfl, (blk_cell BK139.out 1).trans rfl, (blk_cell BK139.out 2).trans rfl, (blk_cell BK139.out 3).trans rfl, (blk_cell BK139.out 4).trans rfl⟩ (fun hHeld => ?_)
            clear hK K
            refine norm_ (a' := ?_) ?_ ?_
            rotate_left
            · show Act.put _ (some 28) _ = _
              simp only [Act.put, List.setIfInBounds_toArray, List.set_cons_zero, List.set_cons_succ, i64_w, i32_w]
              rfl
            refine one_ (i := 9) (N := some 31) #[true, true, true, true, true, true, true, true, true, true, false] rfl rfl (one_of HT_.out (by kernel_rfl)) (by decide) (fun K hK => ?_)
            refine R_append_str_step (w0 := w) w.heap.size (by rfl) (.tmp 28) _ 26 9 5 rfl Try.underlying26 Try.underlying9 info5 v159 y158 a0_4 (fun k_ => some k_ ≠ (.slice Ao16 t143.length co16 : Value).ownBlock ∧ some k_ ≠ (.slice Ao21 t152.length co21 : Value).ownBlock) rfl rfl ?aO ?aF ?aB ?aS ?aL ?_
            (case aB => exact (by repeat (first | (with_reducible first | exact HB.out | apply qd5 | apply qe5 | apply qf5 | refine below_set ?_ GE139.out) | exact HB.out)))
            (case aF => exact (fun k_ hk => ⟨Kd.fresh' (Kd.R_lt (by (with_reducible repeat (first | apply qa5 | apply qb5 | apply qc5)); exact HO145.out)) k_ hk, Kd.fresh' (Kd.R_lt (by (with_reducible repeat (first | apply qa5 | apply qb5 | apply qc5)); exact HO154.out)) k_ hk⟩))
            (case aO => exact (by (with_reducible repeat (first | apply qa5 | apply qb5 | apply qc5)); exact HO160.out))
            (case aS => exact (below_size (by repeat (first | (with_reducible first | exact HB.out | apply qd5 | apply qe5 | apply qf5 | refine below_set ?_ GE139.out) | exact HB.out))))
            (case aL => have := LMc8.out; omega)
            intro v162 w24 ho hb hg hat
            rw [← Ny161.out] at ho
            have n0_ := qg5 (blk_grown (g := gb139) (o := .cells #[.int .i64 a0_0, .int .i64 a0_1, .int .i64 a0_2, .int .i64 a0_3, .string a0_4] 44 (0, 0)) (by (with_reducible repeat (first | apply blk_drewN | apply blk_drew | apply blk_alloc)); exact BK139.out) hg (Kd.R_ne HO160.out BK139.out (by decide)))
            have n1_ := qg5 (Kd.R_after (ok := (fun k_ => some k_ ≠ (.slice Ao21 t152.length co21 : Value).ownBlock)) (by (with_reducible repeat (first | apply qa5 | apply qb5 | apply qc5)); exact HO145.out) hg hat)
            have n2_ := qg5 (Kd.R_after (ok := (fun k_ => some k_ ≠ (.slice Ao16 t143.length co16 : Value).ownBlock)) (by (with_reducible repeat (first | apply qa5 | apply qb5 | apply qc5)); exact HO154.out) hg hat)
            have n3_ := qg5 (hb)
            have n4_ := qg5 (ho)
            clear BK139
            clear HO145
            clear HO154
            clear HB
            clear HO160
            have BK139 := n0_
            have HO145 := n1_
            have HO154 := n2_
            have HB := n3_
            have HO163 := n4_
            clear n0_ n1_ n2_ n3_ n4_
            clear ho hb hg hat
            refine hK.out _ _ ⟨(blk_cell BK139.out 0).trans rfl, (blk_cell BK139.out 1).trans rfl, (blk_cell BK139.out 2).trans rfl, (blk_cell BK139.out 3).trans rfl, (blk_cell BK139.out 4).trans rfl⟩ (fun hHeld => ?_)
            clear hK K
            refine norm_ (a' := ?_) ?_ ?_
            rotate_left
            · show Act.put _ (some 31) _ = _
              simp only [Act.put, List.setIfInBounds_toArray, List.set_cons_zero, List.set_cons_succ, i64_w, i32_w]
              rfl
            refine pure_ (i := 10) (N := some 2) (v := ?_) (a' := ?_) #[true, true, true, true, true, true, true, true, true, true, true] rfl rfl (any_of HT_.out (by kernel_rfl)) (fun _ _ _ h => h) (Or.inl ⟨by rfl, ?_⟩) ?_ ?_
            rotate_left
            · intro w'
              go_simp
              with_reducible rfl
            rotate_left
            · simp only [Act.put, List.setIfInBounds_toArray, List.set_cons_zero, List.set_cons_succ, i64_w, i32_w]
              rfl
            refine done_ (done_of HT_.out (by kernel_rfl)) ?_
            try go_wp2
            go_ret
            exact ⟨_, by first | rfl | (simp [errW_none, errW_some] <;> rfl) | (simp [*, errW_none, errW_some] <;> rfl), by (with_reducible repeat (first | apply qa5 | apply qb5 | apply qc5)); exact Kd.R_mono HO163.out (fun _ hk => trivial), by repeat (first | (with_reducible first | exact HB.out | apply qd5 | apply qe5 | apply qf5 | refine below_set ?_ GE139.out) | exact HB.out)⟩
          · rw [if_neg c8] at H
            exact absurd H (by simp)
        · rw [if_neg c7] at H
          exact absurd H (by simp)
      · rw [if_neg c6] at H
        exact absurd H (by simp)
    · rw [if_neg c4] at H
      exact absurd H (by simp)
  · rw [if_neg c3] at H
    exact absurd H (by simp)

end Go.Proofs.Ytgekkfgljjbikaa.PFnExactBatchBytes
