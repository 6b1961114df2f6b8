-- laid by this session's program myprint.py over the kit's printer
-- aliased
import Derived.Test.YtgekkfgljjbikaaPFnExactBatchBytesx0
import Derived.Test.YtgekkfgljjbikaaPFnExactBatchBytesx1
import Derived.Test.YtgekkfgljjbikaaPFnExactBatchBytesx7
namespace Go.Proofs.Ytgekkfgljjbikaa.PFnExactBatchBytes
open Go.RowKit Go.Proofs.YtgekkfgljjbikaaV.PrintWords Go.Proofs.YtgekkfgljjbikaaV.PrintLast Go.Proofs.YtgekkfgljjbikaaV.PrintMore
attribute [local go_sem] max2_int min2_int max_two min_two max_three min_three max_four min_four u8_wm u32_wm   -- for this text's walks alone
set_option linter.unusedVariables false
set_option linter.unusedSimpArgs false

attribute [local go_sem high] eqA44
/-! ### impl_isBatch: function 86 -/
theorem qa8 : type_of% @blk_drewN := @blk_drewN
theorem qb8 : type_of% @blk_drew := @blk_drew
theorem qc8 : type_of% @blk_alloc := @blk_alloc
theorem qd8 : type_of% @below_alloc := @below_alloc
theorem qe8 : type_of% @pw_below_drewN := @pw_below_drewN
theorem qf8 : type_of% @below_drew1 := @below_drew1
theorem qg8 : type_of% @below_set := @below_set
theorem qh8 : type_of% @Aside0.mk := @Aside0.mk
mutual
def impl_isBatch.j0 : Nat → Bool → Bool → Int → Int → Int → Int → ByteArray → List (S137) → Option (Bool)
  | 0, _, _, _, _, _, _, _, _ => none
  | k + 1, x26, x238000, x238001, x238002, x238003, x238004, x238005, x238006 => if x26 = true then (some false) else (impl_isBatch.l0 k x238006 (x238006.length : Int) 0 x238000 x238001 x238002 x238003 x238004 x238005 x238006)
def impl_isBatch.l0 : Nat → List (S137) → Int → Int → Bool → Int → Int → Int → Int → ByteArray → List (S137) → Option (Bool)
  | 0, _, _, _, _, _, _, _, _, _, _ => none
  | k + 1, x28, x29, x30, x238000, x238001, x238002, x238003, x238004, x238005, x238006 => if x30 < x29 then (if 0 ≤ x30 then (if x30 < (x28.length : Int) then ((impl_isReading.f ((rd_T137 x28 x30).f0) ((rd_T137 x28 x30).f1) ((rd_T137 x28 x30).f2)).bind fun t241 => (if t241 = true then (if x30 > 0 then (if 0 ≤ (wrap64 (x30 - 1)) then (if (wrap64 (x30 - 1)) < (x238006.length : Int) then (if ((rd_T137 x238006 (wrap64 (x30 - 1))).f0) ≥ ((rd_T137 x28 x30).f0) then (some false) else (impl_isBatch.l0 k x28 x29 (wrap64 (x30 + 1)) x238000 x238001 x238002 x238003 x238004 x238005 x238006)) else (none)) else (none)) else (impl_isBatch.l0 k x28 x29 (wrap64 (x30 + 1)) x238000 x238001 x238002 x238003 x238004 x238005 x238006)) else (some false))) else (none)) else (none)) else (some true)
end
def impl_isBatch.f (k : Nat) (a0_0 : Bool) (a0_1 : Int) (a0_2 : Int) (a0_3 : Int) (a0_4 : Int) (a0_5 : ByteArray) (l0_6 : List (S137)) : Option (Bool) := if a0_0 = true then (if (a0_1 == 0 && (a0_2 == 0 && (a0_3 == 0 && (a0_4 == 0 && a0_5.toList.isEmpty)))) = true then (some ((l0_6.length : Int) == 0)) else (some false)) else ((impl_RequestOK.f k a0_1 a0_2 a0_3 a0_4 a0_5).bind fun t238 => (if t238 = true then (impl_isBatch.j0 k (decide ((l0_6.length : Int) > 7)) a0_0 a0_1 a0_2 a0_3 a0_4 a0_5 l0_6) else (impl_isBatch.j0 k true a0_0 a0_1 a0_2 a0_3 a0_4 a0_5 l0_6)))
theorem impl_isBatch.mono_l : ∀ k, (∀ y0 y1 y2 y3 y4 y5 y6 y7, LeO (impl_isBatch.j0 k y0 y1 y2 y3 y4 y5 y6 y7) (impl_isBatch.j0 (k + 1) y0 y1 y2 y3 y4 y5 y6 y7)) ∧ (∀ y0 y1 y2 y3 y4 y5 y6 y7 y8 y9, LeO (impl_isBatch.l0 k y0 y1 y2 y3 y4 y5 y6 y7 y8 y9) (impl_isBatch.l0 (k + 1) y0 y1 y2 y3 y4 y5 y6 y7 y8 y9))
  | 0 => ⟨fun _ _ _ _ _ _ _ _ r h => by simp [impl_isBatch.j0] at h, fun _ _ _ _ _ _ _ _ _ _ r h => by simp [impl_isBatch.l0] at h⟩
  | k + 1 => by
    obtain ⟨ih0, ih1⟩ := impl_isBatch.mono_l k
    refine ⟨?_, ?_⟩
    · intro y0 y1 y2 y3 y4 y5 y6 y7
      unfold impl_isBatch.j0
      repeat' first
      | (with_reducible exact ih0 _ _ _ _ _ _ _ _)
      | (with_reducible exact ih1 _ _ _ _ _ _ _ _ _ _)
      | (with_reducible exact impl_RequestOK.mono _ _ _ _ _ _)
      | (with_reducible exact LeO.refl _)
      | (with_reducible exact LeO.none _)
      | (with_reducible refine LeO.ite ?_ ?_)
      | (with_reducible refine LeO.bind ?_ (fun _ => ?_))
      | exact ih0 _ _ _ _ _ _ _ _
      | exact ih1 _ _ _ _ _ _ _ _ _ _
      | exact impl_RequestOK.mono _ _ _ _ _ _
      | exact LeO.none _
      | refine LeO.ite ?_ ?_
      | refine LeO.bind ?_ (fun _ => ?_)
    · intro y0 y1 y2 y3 y4 y5 y6 y7 y8 y9
      unfold impl_isBatch.l0
      repeat' first
      | (with_reducible exact ih0 _ _ _ _ _ _ _ _)
      | (with_reducible exact ih1 _ _ _ _ _ _ _ _ _ _)
      | (with_reducible exact impl_RequestOK.mono _ _ _ _ _ _)
      | (with_reducible exact LeO.refl _)
      | (with_reducible exact LeO.none _)
      | (with_reducible refine LeO.ite ?_ ?_)
      | (with_reducible refine LeO.bind ?_ (fun _ => ?_))
      | exact ih0 _ _ _ _ _ _ _ _
      | exact ih1 _ _ _ _ _ _ _ _ _ _
      | exact impl_RequestOK.mono _ _ _ _ _ _
      | exact LeO.none _
      | refine LeO.ite ?_ ?_
      | refine LeO.bind ?_ (fun _ => ?_)
theorem impl_isBatch.mono : ∀ a0 a1 a2 a3 a4 a5 a6 k, LeO (impl_isBatch.f k a0 a1 a2 a3 a4 a5 a6) (impl_isBatch.f (k + 1) a0 a1 a2 a3 a4 a5 a6) := by
  intro a0 a1 a2 a3 a4 a5 a6 k
  obtain ⟨ih0, ih1⟩ := impl_isBatch.mono_l k
  unfold impl_isBatch.f
  repeat' first
      | (with_reducible exact ih0 _ _ _ _ _ _ _ _)
      | (with_reducible exact ih1 _ _ _ _ _ _ _ _ _ _)
      | (with_reducible exact impl_RequestOK.mono _ _ _ _ _ _)
      | (with_reducible exact LeO.refl _)
      | (with_reducible exact LeO.none _)
      | (with_reducible refine LeO.ite ?_ ?_)
      | (with_reducible refine LeO.bind ?_ (fun _ => ?_))
      | exact ih0 _ _ _ _ _ _ _ _
      | exact ih1 _ _ _ _ _ _ _ _ _ _
      | exact impl_RequestOK.mono _ _ _ _ _ _
      | exact LeO.none _
      | refine LeO.ite ?_ ?_
      | refine LeO.bind ?_ (fun _ => ?_)
def impl_isBatch.T8 : Bool × List (List Nat × List Nat) := (true, [([], []), ([0], [0]), ([1], [1]), ([2, 1], [2]), ([3], [3]), ([4, 3], [3, 4]), ([5, 3, 3], [3, 5]), ([6], [6]), ([7, 6], [6, 7]), ([6], [6]), ([9, 6], [6, 9]), ([8, 10, 6], [6, 8, 10]), ([11, 6], [6, 11]), ([12, 6], [6, 12]), ([6], [6]), ([14, 6], [6, 14]), ([13, 15, 6], [6, 13, 15]), ([6, 16, 3], [3, 6, 16]), ([3, 17], [3, 17])])
def impl_isBatch.B8 : List Nat := [0, 1, 3, 7, 15, 31, 63, 127, 255, 127, 639, 2047, 4095, 8191, 127, 16511, 65535, 131071, 262143]
theorem impl_isBatch.tab8 : rtab .any (opsOf Try.f86 8) = impl_isBatch.T8 := by kernel_rfl
theorem impl_isBatch.bits8 : waitsOk impl_isBatch.T8.2 impl_isBatch.B8 = true := by kernel_rfl
set_option maxHeartbeats 8000000 in
set_option maxRecDepth 100000 in
theorem impl_isBatch.calls (k : Nat) (a0_0 : Bool) (a0_1 : Int) (a0_2 : Int) (a0_3 : Int) (a0_4 : Int) (a0_5 : ByteArray) (A0_6 : Option Addr) (c0_6 : Nat) (l0_6 : List (S137)) (r : Bool) (w : World) (hr0_6 : Kd.C k137 w A0_6 l0_6.length l0_6) (hc0_6 : l0_6.length ≤ c0_6) (h : impl_isBatch.f k a0_0 a0_1 a0_2 a0_3 a0_4 a0_5 l0_6 = some r) :
    Calls Try.prog 86 #[.agg #[.bool a0_0, .int .i64 a0_1, .int .i64 a0_2, .int .i64 a0_3, .int .i64 a0_4, .string a0_5, .slice A0_6 l0_6.length c0_6]] w fun e w' => e = .returned (.bool r) ∧ Below w.heap.size w w' := by
  have hu60 := Try.underlying60
  have hu44 := Try.underlying44
  have hu137 := Try.underlying137
  have HR0_6 := qh8 hr0_6
  have HC0_6 := qh8 hc0_6
  clear hr0_6 hc0_6
  have HB := qh8 (Below.refl w.heap.size w)
  have H : (if a0_0 = true then (if (a0_1 == 0 && (a0_2 == 0 && (a0_3 == 0 && (a0_4 == 0 && a0_5.toList.isEmpty)))) = true then (some ((l0_6.length : Int) == 0)) else (some false)) else ((impl_RequestOK.f k a0_1 a0_2 a0_3 a0_4 a0_5).bind fun t238 => (if t238 = true then (impl_isBatch.j0 k (decide ((l0_6.length : Int) > 7)) a0_0 a0_1 a0_2 a0_3 a0_4 a0_5 l0_6) else (impl_isBatch.j0 k true a0_0 a0_1 a0_2 a0_3 a0_4 a0_5 l0_6)))) = some r := h
  clear h
  by_cases c2 : a0_0 = true
  · subst c2
    have H1 : (if (a0_1 == 0 && (a0_2 == 0 && (a0_3 == 0 && (a0_4 == 0 && a0_5.toList.isEmpty)))) = true then (some ((l0_6.length : Int) == 0)) else (some false)) = some r := by rw [if_pos rfl] at H; exact H
    clear H
    have H := H1
    clear H1
    by_cases c3 : (a0_1 == 0 && (a0_2 == 0 && (a0_3 == 0 && (a0_4 == 0 && a0_5.toList.isEmpty)))) = true
    · rw [if_pos c3] at H
      have c3b0 : (a0_1 == 0 && (a0_2 == 0 && (a0_3 == 0 && (a0_4 == 0 && a0_5.toList.isEmpty)))) = true := c3
      (try (have c3b1 : decide (a0_1 = 0 && (a0_2 == 0 && (a0_3 == 0 && (a0_4 == 0 && a0_5.toList.isEmpty)))) = true := by simpa using c3))
      (try (have c3b2 : (a0_1 == 0 && (a0_2 == 0 && (a0_3 == 0 && (a0_4 == 0 && a0_5.toList.isEmpty)))) = true := by simpa using c3))
      clear c3
      obtain rfl := Option.some.inj H
      go_enter Try.func86, Try.ntmps86
      go_wp2_with (first | ((with_reducible refine gate_dst (N := 1) rfl ?_); refine box_event ?hg (N := 1) ?hd (cs := #[.bool true, .int .i64 a0_1, .int .i64 a0_2, .int .i64 a0_3, .int .i64 a0_4, .string a0_5, .slice A0_6 l0_6.length c0_6]) (t := 60) ?hr ?_; (case hd => rfl); (case hg => rfl); (case hr => first | (go_simp; done) | (go_simp; rfl)); intro gb237 hg w4 hbox hb; have n0_ := qh8 (below_step (by repeat (first | (with_reducible first | exact HB.out | apply qd8 | apply qe8 | apply qf8) | exact HB.out)) hb); have n1_ := qh8 (hbox); have n2_ := qh8 ((by rw [hg]; exact (below_size (by repeat (first | (with_reducible first | exact HB.out | apply qd8 | apply qe8 | apply qf8) | exact HB.out))) : w.heap.size ≤ gb237)); have n3_ := qh8 ((by rw [hg]; exact (below_size (by repeat (first | (with_reducible first | exact HB.out | apply qd8 | apply qe8 | apply qf8) | exact HB.out))) : w.heap.size ≤ gb237)); clear HB; have HB := n0_; have BK237 := n1_; have GW237 := n2_; have GE237 := n3_; clear n0_ n1_ n2_ n3_; clear hb hbox hg; have hcz5_0 : w4.cell? ⟨gb237, 0, none⟩ = some (.bool true) := (blk_cell BK237.out 0).trans rfl; have hcz5_1 : w4.cell? ⟨gb237, 1, none⟩ = some (.int .i64 a0_1) := (blk_cell BK237.out 1).trans rfl; have hcz5_2 : w4.cell? ⟨gb237, 2, none⟩ = some (.int .i64 a0_2) := (blk_cell BK237.out 2).trans rfl; have hcz5_3 : w4.cell? ⟨gb237, 3, none⟩ = some (.int .i64 a0_3) := (blk_cell BK237.out 3).trans rfl; have hcz5_4 : w4.cell? ⟨gb237, 4, none⟩ = some (.int .i64 a0_4) := (blk_cell BK237.out 4).trans rfl; have hcz5_5 : w4.cell? ⟨gb237, 5, none⟩ = some (.string a0_5) := (blk_cell BK237.out 5).trans rfl; have hcz5_6 : w4.cell? ⟨gb237, 6, none⟩ = some (.slice A0_6 l0_6.length c0_6) := (blk_cell BK237.out 6).trans rfl; have hfz5_0 := blk_frozen BK237.out 0; have hfz5_1 := blk_frozen BK237.out 1; have hfz5_2 := blk_frozen BK237.out 2; have hfz5_3 := blk_frozen BK237.out 3; have hfz5_4 := blk_frozen BK237.out 4; have hfz5_5 := blk_frozen BK237.out 5; have hfz5_6 := blk_frozen BK237.out 6))
      go_ret
      exact ⟨by first | rfl | (simp [errW_none, errW_some] <;> rfl) | (simp [*, errW_none, errW_some] <;> rfl), by repeat (first | (with_reducible first | exact HB.out | apply qd8 | apply qe8 | apply qf8 | refine qg8 ?_ GE237.out) | exact HB.out)⟩
    · rw [if_neg c3] at H
      have c3b0 : (a0_1 == 0 && (a0_2 == 0 && (a0_3 == 0 && (a0_4 == 0 && a0_5.toList.isEmpty)))) = false := by simpa using c3
      (try (have c3b1 : decide (a0_1 = 0 && (a0_2 == 0 && (a0_3 == 0 && (a0_4 == 0 && a0_5.toList.isEmpty)))) = false := by simpa using c3))
      (try (have c3b2 : (a0_1 == 0 && (a0_2 == 0 && (a0_3 == 0 && (a0_4 == 0 && a0_5.toList.isEmpty)))) = false := by simpa using c3))
      (try (have c3b3 : ¬ (a0_1 = 0 && (a0_2 == 0 && (a0_3 == 0 && (a0_4 == 0 && a0_5.toList.isEmpty)))) := by simpa using c3))
      clear c3
      obtain rfl := Option.some.inj H
      go_enter Try.func86, Try.ntmps86
      go_wp2_with (first | ((with_reducible refine gate_dst (N := 1) rfl ?_); refine box_event ?hg (N := 1) ?hd (cs := #[.bool true, .int .i64 a0_1, .int .i64 a0_2, .int .i64 a0_3, .int .i64 a0_4, .string a0_5, .slice A0_6 l0_6.length c0_6]) (t := 60) ?hr ?_; (case hd => rfl); (case hg => rfl); (case hr => first | (go_simp; done) | (go_simp; rfl)); intro gb237 hg w6 hbox hb; have n0_ := qh8 (below_step (by repeat (first | (with_reducible first | exact HB.out | apply qd8 | apply qe8 | apply qf8) | exact HB.out)) hb); have n1_ := qh8 (hbox); have n2_ := qh8 ((by rw [hg]; exact (below_size (by repeat (first | (with_reducible first | exact HB.out | apply qd8 | apply qe8 | apply qf8) | exact HB.out))) : w.heap.size ≤ gb237)); have n3_ := qh8 ((by rw [hg]; exact (below_size (by repeat (first | (with_reducible first | exact HB.out | apply qd8 | apply qe8 | apply qf8) | exact HB.out))) : w.heap.size ≤ gb237)); clear HB; have HB := n0_; have BK237 := n1_; have GW237 := n2_; have GE237 := n3_; clear n0_ n1_ n2_ n3_; clear hb hbox hg; have hcz7_0 : w6.cell? ⟨gb237, 0, none⟩ = some (.bool true) := (blk_cell BK237.out 0).trans rfl; have hcz7_1 : w6.cell? ⟨gb237, 1, none⟩ = some (.int .i64 a0_1) := (blk_cell BK237.out 1).trans rfl; have hcz7_2 : w6.cell? ⟨gb237, 2, none⟩ = some (.int .i64 a0_2) := (blk_cell BK237.out 2).trans rfl; have hcz7_3 : w6.cell? ⟨gb237, 3, none⟩ = some (.int .i64 a0_3) := (blk_cell BK237.out 3).trans rfl; have hcz7_4 : w6.cell? ⟨gb237, 4, none⟩ = some (.int .i64 a0_4) := (blk_cell BK237.out 4).trans rfl; have hcz7_5 : w6.cell? ⟨gb237, 5, none⟩ = some (.string a0_5) := (blk_cell BK237.out 5).trans rfl; have hcz7_6 : w6.cell? ⟨gb237, 6, none⟩ = some (.slice A0_6 l0_6.length c0_6) := (blk_cell BK237.out 6).trans rfl; have hfz7_0 := blk_frozen BK237.out 0; have hfz7_1 := blk_frozen BK237.out 1; have hfz7_2 := blk_frozen BK237.out 2; have hfz7_3 := blk_frozen BK237.out 3; have hfz7_4 := blk_frozen BK237.out 4; have hfz7_5 := blk_frozen BK237.out 5; have hfz7_6 := blk_frozen BK237.out 6))
      go_ret
      exact ⟨by first | rfl | (simp [errW_none, errW_some] <;> rfl) | (simp [*, errW_none, errW_some] <;> rfl), by repeat (first | (with_reducible first | exact HB.out | apply qd8 | apply qe8 | apply qf8 | refine qg8 ?_ GE237.out) | exact HB.out)⟩
  · replace c2 := Bool.eq_false_iff.mpr c2
    subst c2
    have H1 : ((impl_RequestOK.f k a0_1 a0_2 a0_3 a0_4 a0_5).bind fun t238 => (if t238 = true then (impl_isBatch.j0 k (decide ((l0_6.length : Int) > 7)) false a0_1 a0_2 a0_3 a0_4 a0_5 l0_6) else (impl_isBatch.j0 k true false a0_1 a0_2 a0_3 a0_4 a0_5 l0_6))) = some r := by rw [if_neg (show ¬ (false = true) by decide)] at H; exact H
    clear H
    have H := H1
    clear H1
    have HC8 := qh8 H
    clear H
    go_enter Try.func86, Try.ntmps86
    go_upto_region 3 with (first | ((with_reducible refine gate_dst (N := 1) rfl ?_); refine box_event ?hg (N := 1) ?hd (cs := #[.bool false, .int .i64 a0_1, .int .i64 a0_2, .int .i64 a0_3, .int .i64 a0_4, .string a0_5, .slice A0_6 l0_6.length c0_6]) (t := 60) ?hr ?_; (case hd => rfl); (case hg => rfl); (case hr => first | (go_simp; done) | (go_simp; rfl)); intro gb237 hg w9 hbox hb; have n0_ := qh8 (below_step (by repeat (first | (with_reducible first | exact HB.out | apply qd8 | apply qe8 | apply qf8) | exact HB.out)) hb); have n1_ := qh8 (hbox); have n2_ := qh8 ((by rw [hg]; exact (below_size (by repeat (first | (with_reducible first | exact HB.out | apply qd8 | apply qe8 | apply qf8) | exact HB.out))) : w.heap.size ≤ gb237)); have n3_ := qh8 ((by rw [hg]; exact (below_size (by repeat (first | (with_reducible first | exact HB.out | apply qd8 | apply qe8 | apply qf8) | exact HB.out))) : w.heap.size ≤ gb237)); clear HB; have HB := n0_; have BK237 := n1_; have GW237 := n2_; have GE237 := n3_; clear n0_ n1_ n2_ n3_; clear hb hbox hg; have hcz10_0 : w9.cell? ⟨gb237, 0, none⟩ = some (.bool false) := (blk_cell BK237.out 0).trans rfl; have hcz10_1 : w9.cell? ⟨gb237, 1, none⟩ = some (.int .i64 a0_1) := (blk_cell BK237.out 1).trans rfl; have hcz10_2 : w9.cell? ⟨gb237, 2, none⟩ = some (.int .i64 a0_2) := (blk_cell BK237.out 2).trans rfl; have hcz10_3 : w9.cell? ⟨gb237, 3, none⟩ = some (.int .i64 a0_3) := (blk_cell BK237.out 3).trans rfl; have hcz10_4 : w9.cell? ⟨gb237, 4, none⟩ = some (.int .i64 a0_4) := (blk_cell BK237.out 4).trans rfl; have hcz10_5 : w9.cell? ⟨gb237, 5, none⟩ = some (.string a0_5) := (blk_cell BK237.out 5).trans rfl; have hcz10_6 : w9.cell? ⟨gb237, 6, none⟩ = some (.slice A0_6 l0_6.length c0_6) := (blk_cell BK237.out 6).trans rfl; have hfz10_0 := blk_frozen BK237.out 0; have hfz10_1 := blk_frozen BK237.out 1; have hfz10_2 := blk_frozen BK237.out 2; have hfz10_3 := blk_frozen BK237.out 3; have hfz10_4 := blk_frozen BK237.out 4; have hfz10_5 := blk_frozen BK237.out 5; have hfz10_6 := blk_frozen BK237.out 6))
    (try simp only [Act.put, List.setIfInBounds_toArray, List.set_cons_zero, List.set_cons_succ])
    go_cut [26] (fun v26 wc => ∃ (kq : Nat) (x26_7 : Bool), v26 = .bool x26_7 ∧ Aside0 (impl_isBatch.j0 kq x26_7 false a0_1 a0_2 a0_3 a0_4 a0_5 l0_6 = some r) ∧ Aside0 (kq ≤ k) ∧ Aside0 (wc.heap[gb237]? = some (.cells #[.bool false, .int .i64 a0_1, .int .i64 a0_2, .int .i64 a0_3, .int .i64 a0_4, .string a0_5, (.slice A0_6 l0_6.length c0_6)] 60 (0, 0))) ∧ Aside0 (Below w.heap.size w wc))
    case first =>
      have H := HC8.out
      clear HC8
      replace H := Option.bind_eq_some_iff.mp H
      obtain ⟨t238, A110, H⟩ := H
      replace H : (if t238 = true then (impl_isBatch.j0 k (decide ((l0_6.length : Int) > 7)) false a0_1 a0_2 a0_3 a0_4 a0_5 l0_6) else (impl_isBatch.j0 k true false a0_1 a0_2 a0_3 a0_4 a0_5 l0_6)) = some r := H
      have A11 := qh8 A110
      clear A110
      by_cases c12 : t238 = true
      · subst c12
        have H1 : (impl_isBatch.j0 k (decide ((l0_6.length : Int) > 7)) false a0_1 a0_2 a0_3 a0_4 a0_5 l0_6) = some r := by rw [if_pos rfl] at H; exact H
        clear H
        have H := H1
        clear H1
        have H' := qh8 H
        clear H
        have hcz13_0 : w9.cell? ⟨gb237, 0, none⟩ = some (.bool false) := (blk_cell BK237.out 0).trans rfl
        have hcz13_1 : w9.cell? ⟨gb237, 1, none⟩ = some (.int .i64 a0_1) := (blk_cell BK237.out 1).trans rfl
        have hcz13_2 : w9.cell? ⟨gb237, 2, none⟩ = some (.int .i64 a0_2) := (blk_cell BK237.out 2).trans rfl
        have hcz13_3 : w9.cell? ⟨gb237, 3, none⟩ = some (.int .i64 a0_3) := (blk_cell BK237.out 3).trans rfl
        have hcz13_4 : w9.cell? ⟨gb237, 4, none⟩ = some (.int .i64 a0_4) := (blk_cell BK237.out 4).trans rfl
        have hcz13_5 : w9.cell? ⟨gb237, 5, none⟩ = some (.string a0_5) := (blk_cell BK237.out 5).trans rfl
        have hcz13_6 : w9.cell? ⟨gb237, 6, none⟩ = some (.slice A0_6 l0_6.length c0_6) := (blk_cell BK237.out 6).trans rfl
        have hfz13_0 := blk_frozen BK237.out 0
        have hfz13_1 := blk_frozen BK237.out 1
        have hfz13_2 := blk_frozen BK237.out 2
        have hfz13_3 := blk_frozen BK237.out 3
        have hfz13_4 := blk_frozen BK237.out 4
        have hfz13_5 := blk_frozen BK237.out 5
        have hfz13_6 := blk_frozen BK237.out 6
        go_wp2_with (first | ((with_reducible refine gate_callee (f := 76) rfl ?_); refine goesL_ (some 19) rfl rfl Try.func76 (by kernel_rfl) rfl #[.agg #[.int .i64 a0_1, .int .i64 a0_2, .int .i64 a0_3, .int .i64 a0_4, .string a0_5]] rfl (by (try simp only [List.map_toArray, List.map_cons, List.map_nil]); first | done | rfl | (simp only [List.length_drop, List.length_take]; rfl)) ?_; (with_reducible refine (impl_RequestOK.calls k a0_1 a0_2 a0_3 a0_4 a0_5 true _ A11.out).mono ?_); rintro e w14 ⟨rfl, hb⟩; refine ⟨_, rfl, ?_⟩; have n0_ := qh8 (blk_below (g := gb237) (o := .cells #[.bool false, .int .i64 a0_1, .int .i64 a0_2, .int .i64 a0_3, .int .i64 a0_4, .string a0_5, .slice A0_6 l0_6.length c0_6] 60 (0, 0)) (by (with_reducible repeat (first | apply qa8 | apply qb8 | apply qc8)); exact BK237.out) hb); have n1_ := qh8 (below_step (by repeat (first | (with_reducible first | exact HB.out | apply qd8 | apply qe8 | apply qf8 | refine qg8 ?_ GE237.out) | exact HB.out)) hb); clear BK237; clear HB; have BK237 := n0_; have HB := n1_; clear n0_ n1_; (try clear hb); (try clear hb2); (try clear hk); (try clear hi); have hcz15_0 : w14.cell? ⟨gb237, 0, none⟩ = some (.bool false) := (blk_cell BK237.out 0).trans rfl; have hcz15_1 : w14.cell? ⟨gb237, 1, none⟩ = some (.int .i64 a0_1) := (blk_cell BK237.out 1).trans rfl; have hcz15_2 : w14.cell? ⟨gb237, 2, none⟩ = some (.int .i64 a0_2) := (blk_cell BK237.out 2).trans rfl; have hcz15_3 : w14.cell? ⟨gb237, 3, none⟩ = some (.int .i64 a0_3) := (blk_cell BK237.out 3).trans rfl; have hcz15_4 : w14.cell? ⟨gb237, 4, none⟩ = some (.int .i64 a0_4) := (blk_cell BK237.out 4).trans rfl; have hcz15_5 : w14.cell? ⟨gb237, 5, none⟩ = some (.string a0_5) := (blk_cell BK237.out 5).trans rfl; have hcz15_6 : w14.cell? ⟨gb237, 6, none⟩ = some (.slice A0_6 l0_6.length c0_6) := (blk_cell BK237.out 6).trans rfl; have hfz15_0 := blk_frozen BK237.out 0; have hfz15_1 := blk_frozen BK237.out 1; have hfz15_2 := blk_frozen BK237.out 2; have hfz15_3 := blk_frozen BK237.out 3; have hfz15_4 := blk_frozen BK237.out 4; have hfz15_5 := blk_frozen BK237.out 5; have hfz15_6 := blk_frozen BK237.out 6))
        go_meet
        case rel => exact ⟨_, (decide ((l0_6.length : Int) > 7)), (by first | rfl | (simp; done) | (simp [*]; done)), H', ⟨by first | omega | exact Nat.le_refl _⟩, ⟨by (with_reducible repeat (first | apply qa8 | apply qb8 | apply qc8)); exact BK237.out⟩, ⟨by repeat (first | (with_reducible first | exact HB.out | apply qd8 | apply qe8 | apply qf8 | refine qg8 ?_ GE237.out) | exact HB.out)⟩⟩
      · replace c12 := Bool.eq_false_iff.mpr c12
        subst c12
        have H1 : (impl_isBatch.j0 k true false a0_1 a0_2 a0_3 a0_4 a0_5 l0_6) = some r := by rw [if_neg (show ¬ (false = true) by decide)] at H; exact H
        clear H
        have H := H1
        clear H1
        have H' := qh8 H
        clear H
        have hcz16_0 : w9.cell? ⟨gb237, 0, none⟩ = some (.bool false) := (blk_cell BK237.out 0).trans rfl
        have hcz16_1 : w9.cell? ⟨gb237, 1, none⟩ = some (.int .i64 a0_1) := (blk_cell BK237.out 1).trans rfl
        have hcz16_2 : w9.cell? ⟨gb237, 2, none⟩ = some (.int .i64 a0_2) := (blk_cell BK237.out 2).trans rfl
        have hcz16_3 : w9.cell? ⟨gb237, 3, none⟩ = some (.int .i64 a0_3) := (blk_cell BK237.out 3).trans rfl
        have hcz16_4 : w9.cell? ⟨gb237, 4, none⟩ = some (.int .i64 a0_4) := (blk_cell BK237.out 4).trans rfl
        have hcz16_5 : w9.cell? ⟨gb237, 5, none⟩ = some (.string a0_5) := (blk_cell BK237.out 5).trans rfl
        have hcz16_6 : w9.cell? ⟨gb237, 6, none⟩ = some (.slice A0_6 l0_6.length c0_6) := (blk_cell BK237.out 6).trans rfl
        have hfz16_0 := blk_frozen BK237.out 0
        have hfz16_1 := blk_frozen BK237.out 1
        have hfz16_2 := blk_frozen BK237.out 2
        have hfz16_3 := blk_frozen BK237.out 3
        have hfz16_4 := blk_frozen BK237.out 4
        have hfz16_5 := blk_frozen BK237.out 5
        have hfz16_6 := blk_frozen BK237.out 6
        go_wp2_with (first | ((with_reducible refine gate_callee (f := 76) rfl ?_); refine goesL_ (some 19) rfl rfl Try.func76 (by kernel_rfl) rfl #[.agg #[.int .i64 a0_1, .int .i64 a0_2, .int .i64 a0_3, .int .i64 a0_4, .string a0_5]] rfl (by (try simp only [List.map_toArray, List.map_cons, List.map_nil]); first | done | rfl | (simp only [List.length_drop, List.length_take]; rfl)) ?_; (with_reducible refine (impl_RequestOK.calls k a0_1 a0_2 a0_3 a0_4 a0_5 false _ A11.out).mono ?_); rintro e w17 ⟨rfl, hb⟩; refine ⟨_, rfl, ?_⟩; have n0_ := qh8 (blk_below (g := gb237) (o := .cells #[.bool false, .int .i64 a0_1, .int .i64 a0_2, .int .i64 a0_3, .int .i64 a0_4, .string a0_5, .slice A0_6 l0_6.length c0_6] 60 (0, 0)) (by (with_reducible repeat (first | apply qa8 | apply qb8 | apply qc8)); exact BK237.out) hb); have n1_ := qh8 (below_step (by repeat (first | (with_reducible first | exact HB.out | apply qd8 | apply qe8 | apply qf8 | refine qg8 ?_ GE237.out) | exact HB.out)) hb); clear BK237; clear HB; have BK237 := n0_; have HB := n1_; clear n0_ n1_; (try clear hb); (try clear hb2); (try clear hk); (try clear hi)))
        go_meet
        case rel => exact ⟨_, (true), (by first | rfl | (simp; done) | (simp [*]; done)), H', ⟨by first | omega | exact Nat.le_refl _⟩, ⟨by (with_reducible repeat (first | apply qa8 | apply qb8 | apply qc8)); exact BK237.out⟩, ⟨by repeat (first | (with_reducible first | exact HB.out | apply qd8 | apply qe8 | apply qf8 | refine qg8 ?_ GE237.out) | exact HB.out)⟩⟩
    case rest =>
      clear HC8
      try clear c1
      try clear c2
      try clear p2
      try clear c3
      try clear c3b0
      try clear c3b1
      try clear c3b2
      try clear c7
      try clear c8
      try clear c12
      try clear hcz10_0
      try clear hcz10_1
      try clear hcz10_2
      try clear hcz10_3
      try clear hcz10_4
      try clear hcz10_5
      try clear hcz10_6
      try clear hcz13_0
      try clear hcz13_1
      try clear hcz13_2
      try clear hcz13_3
      try clear hcz13_4
      try clear hcz13_5
      try clear hcz13_6
      try clear hcz15_0
      try clear hcz15_1
      try clear hcz15_2
      try clear hcz15_3
      try clear hcz15_4
      try clear hcz15_5
      try clear hcz15_6
      try clear hcz16_0
      try clear hcz16_1
      try clear hcz16_2
      try clear hcz16_3
      try clear hcz16_4
      try clear hcz16_5
      try clear hcz16_6
      try clear hcz5_0
      try clear hcz5_1
      try clear hcz5_2
      try clear hcz5_3
      try clear hcz5_4
      try clear hcz5_5
      try clear hcz5_6
      try clear hcz7_0
      try clear hcz7_1
      try clear hcz7_2
      try clear hcz7_3
      try clear hcz7_4
      try clear hcz7_5
      try clear hcz7_6
      try clear hfz10_0
      try clear hfz10_1
      try clear hfz10_2
      try clear hfz10_3
      try clear hfz10_4
      try clear hfz10_5
      try clear hfz10_6
      try clear hfz13_0
      try clear hfz13_1
      try clear hfz13_2
      try clear hfz13_3
      try clear hfz13_4
      try clear hfz13_5
      try clear hfz13_6
      try clear hfz15_0
      try clear hfz15_1
      try clear hfz15_2
      try clear hfz15_3
      try clear hfz15_4
      try clear hfz15_5
      try clear hfz15_6
      try clear hfz16_0
      try clear hfz16_1
      try clear hfz16_2
      try clear hfz16_3
      try clear hfz16_4
      try clear hfz16_5
      try clear hfz16_6
      try clear hfz5_0
      try clear hfz5_1
      try clear hfz5_2
      try clear hfz5_3
      try clear hfz5_4
      try clear hfz5_5
      try clear hfz5_6
      try clear hfz7_0
      try clear hfz7_1
      try clear hfz7_2
      try clear hfz7_3
      try clear hfz7_4
      try clear hfz7_5
      try clear hfz7_6
      obtain ⟨kq, x26_7, rfl, HA, HJ7, BK237, HB⟩ := hcut
      cases kq with
      | zero => exact absurd HA.out (by simp [impl_isBatch.j0])
      | succ kj7 =>
        have H := HA.out
        clear HA
        simp only [impl_isBatch.j0] at H
        by_cases c18 : x26_7 = true
        · subst c18
          have H1 : (some false) = some r := by rw [if_pos rfl] at H; exact H
          clear H
          have H := H1
          clear H1
          obtain rfl := Option.some.inj H
          go_wp2
          go_ret
          exact ⟨by first | rfl | (simp [errW_none, errW_some] <;> rfl) | (simp [*, errW_none, errW_some] <;> rfl), by repeat (first | (with_reducible first | exact HB.out | apply qd8 | apply qe8 | apply qf8 | refine qg8 ?_ GE237.out) | exact HB.out)⟩
        · replace c18 := Bool.eq_false_iff.mpr c18
          subst c18
          have H1 : (impl_isBatch.l0 kj7 l0_6 (l0_6.length : Int) 0 false a0_1 a0_2 a0_3 a0_4 a0_5 l0_6) = some r := by rw [if_neg (show ¬ (false = true) by decide)] at H; exact H
          clear H
          have H := H1
          clear H1
          have H' := qh8 H
          clear H
          have hcz19_0 : wc.cell? ⟨gb237, 0, none⟩ = some (.bool false) := (blk_cell BK237.out 0).trans rfl
          have hcz19_1 : wc.cell? ⟨gb237, 1, none⟩ = some (.int .i64 a0_1) := (blk_cell BK237.out 1).trans rfl
          have hcz19_2 : wc.cell? ⟨gb237, 2, none⟩ = some (.int .i64 a0_2) := (blk_cell BK237.out 2).trans rfl
          have hcz19_3 : wc.cell? ⟨gb237, 3, none⟩ = some (.int .i64 a0_3) := (blk_cell BK237.out 3).trans rfl
          have hcz19_4 : wc.cell? ⟨gb237, 4, none⟩ = some (.int .i64 a0_4) := (blk_cell BK237.out 4).trans rfl
          have hcz19_5 : wc.cell? ⟨gb237, 5, none⟩ = some (.string a0_5) := (blk_cell BK237.out 5).trans rfl
          have hcz19_6 : wc.cell? ⟨gb237, 6, none⟩ = some (.slice A0_6 l0_6.length c0_6) := (blk_cell BK237.out 6).trans rfl
          have hfz19_0 := blk_frozen BK237.out 0
          have hfz19_1 := blk_frozen BK237.out 1
          have hfz19_2 := blk_frozen BK237.out 2
          have hfz19_3 := blk_frozen BK237.out 3
          have hfz19_4 := blk_frozen BK237.out 4
          have hfz19_5 := blk_frozen BK237.out 5
          have hfz19_6 := blk_frozen BK237.out 6
          go_wp2
          go_loopg [30] kj7 (fun kq v30 w' => ∃ (x30_2 : Int), v30 = .int .i64 x30_2 ∧ Aside0 (impl_isBatch.l0 kq l0_6 (l0_6.length : Int) x30_2 false a0_1 a0_2 a0_3 a0_4 a0_5 l0_6 = some r) ∧ Aside0 (kq ≤ kj7) ∧ Aside0 (w'.heap[gb237]? = some (.cells #[.bool false, .int .i64 a0_1, .int .i64 a0_2, .int .i64 a0_3, .int .i64 a0_4, .string a0_5, (.slice A0_6 l0_6.length c0_6)] 60 (0, 0))) ∧ Aside0 (Below w.heap.size w w'))
          case atStart => exact ⟨(0), (by first | rfl | (simp; done) | (simp [*]; done)), H', ⟨Nat.le_refl _⟩, ⟨by (with_reducible repeat (first | apply qa8 | apply qb8 | apply qc8)); exact BK237.out⟩, ⟨by repeat (first | (with_reducible first | exact HB.out | apply qd8 | apply qe8 | apply qf8 | refine qg8 ?_ GE237.out) | exact HB.out)⟩⟩
          case round =>
            clear H'
            try clear c1
            try clear c2
            try clear p2
            try clear c3
            try clear c3b0
            try clear c3b1
            try clear c3b2
            try clear c7
            try clear c8
            try clear c12
            try clear c18
            try clear hcz10_0
            try clear hcz10_1
            try clear hcz10_2
            try clear hcz10_3
            try clear hcz10_4
            try clear hcz10_5
            try clear hcz10_6
            try clear hcz13_0
            try clear hcz13_1
            try clear hcz13_2
            try clear hcz13_3
            try clear hcz13_4
            try clear hcz13_5
            try clear hcz13_6
            try clear hcz15_0
            try clear hcz15_1
            try clear hcz15_2
            try clear hcz15_3
            try clear hcz15_4
            try clear hcz15_5
            try clear hcz15_6
            try clear hcz16_0
            try clear hcz16_1
            try clear hcz16_2
            try clear hcz16_3
            try clear hcz16_4
            try clear hcz16_5
            try clear hcz16_6
            try clear hcz19_0
            try clear hcz19_1
            try clear hcz19_2
            try clear hcz19_3
            try clear hcz19_4
            try clear hcz19_5
            try clear hcz19_6
            try clear hcz5_0
            try clear hcz5_1
            try clear hcz5_2
            try clear hcz5_3
            try clear hcz5_4
            try clear hcz5_5
            try clear hcz5_6
            try clear hcz7_0
            try clear hcz7_1
            try clear hcz7_2
            try clear hcz7_3
            try clear hcz7_4
            try clear hcz7_5
            try clear hcz7_6
            try clear hfz10_0
            try clear hfz10_1
            try clear hfz10_2
            try clear hfz10_3
            try clear hfz10_4
            try clear hfz10_5
            try clear hfz10_6
            try clear hfz13_0
            try clear hfz13_1
            try clear hfz13_2
            try clear hfz13_3
            try clear hfz13_4
            try clear hfz13_5
            try clear hfz13_6
            try clear hfz15_0
            try clear hfz15_1
            try clear hfz15_2
            try clear hfz15_3
            try clear hfz15_4
            try clear hfz15_5
            try clear hfz15_6
            try clear hfz16_0
            try clear hfz16_1
            try clear hfz16_2
            try clear hfz16_3
            try clear hfz16_4
            try clear hfz16_5
            try clear hfz16_6
            try clear hfz19_0
            try clear hfz19_1
            try clear hfz19_2
            try clear hfz19_3
            try clear hfz19_4
            try clear hfz19_5
            try clear hfz19_6
            try clear hfz5_0
            try clear hfz5_1
            try clear hfz5_2
            try clear hfz5_3
            try clear hfz5_4
            try clear hfz5_5
            try clear hfz5_6
            try clear hfz7_0
            try clear hfz7_1
            try clear hfz7_2
            try clear hfz7_3
            try clear hfz7_4
            try clear hfz7_5
            try clear hfz7_6
            try clear p2
            obtain ⟨x30_2, rfl, HA, HK2, BK237, HB⟩ := hrel
            cases gk with
            | zero => exact absurd HA.out (by simp [impl_isBatch.l0])
            | succ k2 =>
              have H := HA.out
              clear HA
              simp only [impl_isBatch.l0] at H
              by_cases c20 : x30_2 < (l0_6.length : Int)
              · rw [if_pos c20] at H
                have c20b0 : decide (x30_2 < (l0_6.length : Int)) = true := decide_eq_true c20
                clear c20
                by_cases c21 : 0 ≤ x30_2
                · rw [if_pos c21] at H
                  have c21b0 : decide (0 ≤ x30_2) = true := decide_eq_true c21
                  clear c21
                  by_cases c22 : x30_2 < (l0_6.length : Int)
                  · rw [if_pos c22] at H
                    have c22b0 : decide (x30_2 < (l0_6.length : Int)) = true := decide_eq_true c22
                    clear c22
                    replace H := Option.bind_eq_some_iff.mp H
                    obtain ⟨t241, A230, H⟩ := H
                    replace H : (if t241 = true then (if x30_2 > 0 then (if 0 ≤ (wrap64 (x30_2 - 1)) then (if (wrap64 (x30_2 - 1)) < (l0_6.length : Int) then (if ((rd_T137 l0_6 (wrap64 (x30_2 - 1))).f0) ≥ ((rd_T137 l0_6 x30_2).f0) then (some false) else (impl_isBatch.l0 k2 l0_6 (l0_6.length : Int) (wrap64 (x30_2 + 1)) false a0_1 a0_2 a0_3 a0_4 a0_5 l0_6)) else (none)) else (none)) else (impl_isBatch.l0 k2 l0_6 (l0_6.length : Int) (wrap64 (x30_2 + 1)) false a0_1 a0_2 a0_3 a0_4 a0_5 l0_6)) else (some false)) = some r := H
                    have A23 := qh8 A230
                    clear A230
                    by_cases c24 : t241 = true
                    · subst c24
                      have H1 : (if x30_2 > 0 then (if 0 ≤ (wrap64 (x30_2 - 1)) then (if (wrap64 (x30_2 - 1)) < (l0_6.length : Int) then (if ((rd_T137 l0_6 (wrap64 (x30_2 - 1))).f0) ≥ ((rd_T137 l0_6 x30_2).f0) then (some false) else (impl_isBatch.l0 k2 l0_6 (l0_6.length : Int) (wrap64 (x30_2 + 1)) false a0_1 a0_2 a0_3 a0_4 a0_5 l0_6)) else (none)) else (none)) else (impl_isBatch.l0 k2 l0_6 (l0_6.length : Int) (wrap64 (x30_2 + 1)) false a0_1 a0_2 a0_3 a0_4 a0_5 l0_6)) = some r := by rw [if_pos rfl] at H; exact H
                      clear H
                      have H := H1
                      clear H1
                      by_cases c25 : x30_2 > 0
                      · rw [if_pos c25] at H
                        have c25b0 : decide (0 < x30_2) = true := decide_eq_true c25
                        clear c25
                        obtain ⟨ji26, hji26⟩ : ∃ j_ : Int, (wrap64 (x30_2 - 1)) = j_ := ⟨_, rfl⟩
                        replace H : (if 0 ≤ (ji26) then (if (ji26) < (l0_6.length : Int) then (if ((rd_T137 l0_6 (ji26)).f0) ≥ ((rd_T137 l0_6 x30_2).f0) then (some false) else (impl_isBatch.l0 k2 l0_6 (l0_6.length : Int) (wrap64 (x30_2 + 1)) false a0_1 a0_2 a0_3 a0_4 a0_5 l0_6)) else (none)) else (none)) = some r := by first | (rw [hji26] at H; exact H) | (simp only [hji26] at H ⊢; exact H)
                        (try rw [hji26] at A23)
                        have hji26w : (IntKind.i64.wrap (x30_2 - 1)) = ji26 := (i64_w _).trans hji26
                        by_cases c27 : 0 ≤ (ji26)
                        · rw [if_pos c27] at H
                          have c27b0 : decide (0 ≤ (ji26)) = true := decide_eq_true c27
                          clear c27
                          by_cases c28 : (ji26) < (l0_6.length : Int)
                          · rw [if_pos c28] at H
                            have c28b0 : decide ((ji26) < (l0_6.length : Int)) = true := decide_eq_true c28
                            clear c28
                            by_cases c29 : ((rd_T137 l0_6 (ji26)).f0) ≥ ((rd_T137 l0_6 x30_2).f0)
                            · rw [if_pos c29] at H
                              have c29b0 : decide (((rd_T137 l0_6 x30_2).f0) ≤ ((rd_T137 l0_6 (ji26)).f0)) = true := decide_eq_true c29
                              clear c29
                              obtain rfl := Option.some.inj H
                              have p239 : 0 ≤ (x30_2 : Int) := of_decide_eq_true (by first | (with_reducible assumption) | assumption)
                              have q239 : x30_2 < (l0_6.length : Int) := of_decide_eq_true (by first | (with_reducible assumption) | assumption)
                              obtain ⟨ad239, e239, hx239_0, hx239_1, hx239_2⟩ := at_T137 HR0_6.out x30_2 p239 q239
                              cases e239
                              replace hx239_0 := (HB.out.cell (World.block_lt_of_cell? w _ hx239_0)).trans hx239_0
                              replace hx239_1 := (HB.out.cell (World.block_lt_of_cell? w _ hx239_1)).trans hx239_1
                              replace hx239_2 := (HB.out.cell (World.block_lt_of_cell? w _ hx239_2)).trans hx239_2
                              replace p239 := eq_true p239
                              replace q239 := eq_true q239
                              try go_wp2_with (first | ((with_reducible refine gate_dst (N := 4) rfl ?_); refine box_event ?hg (N := 4) ?hd (cs := #[.int .i64 0, .int .i64 0, .string (⟨#[]⟩ : ByteArray)]) (t := 137) ?hr ?_; (case hd => rfl); (case hg => rfl); (case hr => first | (go_simp; done) | (go_simp; rfl)); intro gb240 hg w30 hbox hb; have n0_ := qh8 (blk_below (g := gb237) (o := .cells #[.bool false, .int .i64 a0_1, .int .i64 a0_2, .int .i64 a0_3, .int .i64 a0_4, .string a0_5, .slice (some ad239) l0_6.length c0_6] 60 (0, 0)) (by (with_reducible repeat (first | apply qa8 | apply qb8 | apply qc8)); exact BK237.out) hb); have n1_ := qh8 (below_step (by repeat (first | (with_reducible first | exact HB.out | apply qd8 | apply qe8 | apply qf8 | refine qg8 ?_ GE237.out) | exact HB.out)) hb); have n2_ := qh8 (hbox); have n3_ := qh8 ((by rw [hg]; exact (below_size (by repeat (first | (with_reducible first | exact HB.out | apply qd8 | apply qe8 | apply qf8 | refine qg8 ?_ GE237.out) | exact HB.out))) : w.heap.size ≤ gb240)); have n4_ := qh8 ((by rw [hg]; exact (below_size (by repeat (first | (with_reducible first | exact HB.out | apply qd8 | apply qe8 | apply qf8 | refine qg8 ?_ GE237.out) | exact HB.out))) : w.heap.size ≤ gb240)); have n5_ := qh8 ((by rw [hg]; exact Nat.ne_of_lt (blk_lt (g := gb237) (o := .cells #[.bool false, .int .i64 a0_1, .int .i64 a0_2, .int .i64 a0_3, .int .i64 a0_4, .string a0_5, .slice (some ad239) l0_6.length c0_6] 60 (0, 0)) (by (with_reducible repeat (first | apply qa8 | apply qb8 | apply qc8)); exact BK237.out)) : gb237 ≠ gb240)); have n6_ := qh8 ((by rw [hg]; exact Nat.ne_of_gt (blk_lt (g := gb237) (o := .cells #[.bool false, .int .i64 a0_1, .int .i64 a0_2, .int .i64 a0_3, .int .i64 a0_4, .string a0_5, .slice (some ad239) l0_6.length c0_6] 60 (0, 0)) (by (with_reducible repeat (first | apply qa8 | apply qb8 | apply qc8)); exact BK237.out)) : gb240 ≠ gb237)); clear BK237; clear HB; have BK237 := n0_; have HB := n1_; have BK240 := n2_; have GW240 := n3_; have GE240 := n4_; have NB237_240 := n5_; have NB240_237 := n6_; clear n0_ n1_ n2_ n3_ n4_ n5_ n6_; clear hb hbox hg; have hnb31 := NB240_237.out; have hnc31 := NB237_240.out; have hcz32_0 : w30.cell? ⟨gb240, 0, none⟩ = some (.int .i64 0) := (blk_cell BK240.out 0).trans rfl; have hcz32_1 : w30.cell? ⟨gb240, 1, none⟩ = some (.int .i64 0) := (blk_cell BK240.out 1).trans rfl; have hcz32_2 : w30.cell? ⟨gb240, 2, none⟩ = some (.string (⟨#[]⟩ : ByteArray)) := (blk_cell BK240.out 2).trans rfl; have hfz32_0 := blk_frozen BK240.out 0; have hfz32_1 := blk_frozen BK240.out 1; have hfz32_2 := blk_frozen BK240.out 2))
                              have n0_ : Aside0 ((((w30.setCell ⟨gb240, 0, none⟩ (.int .i64 ((rd_T137 l0_6 x30_2).f0))).setCell ⟨gb240, 1, none⟩ (.int .i64 ((rd_T137 l0_6 x30_2).f1))).setCell ⟨gb240, 2, none⟩ (.string ((rd_T137 l0_6 x30_2).f2))).heap[gb237]? = some (.cells #[.bool false, .int .i64 a0_1, .int .i64 a0_2, .int .i64 a0_3, .int .i64 a0_4, .string a0_5, .slice (some ad239) l0_6.length c0_6] 60 (0, 0))) := ⟨by (with_reducible repeat (first | apply qa8 | apply qb8 | apply qc8)); refine blk_far ?_ NB237_240.out _; (with_reducible repeat (first | apply qa8 | apply qb8 | apply qc8)); refine blk_far ?_ NB237_240.out _; (with_reducible repeat (first | apply qa8 | apply qb8 | apply qc8)); refine blk_far ?_ NB237_240.out _; (with_reducible repeat (first | apply qa8 | apply qb8 | apply qc8)); exact BK237.out⟩
                              have n1_ : Aside0 ((((w30.setCell ⟨gb240, 0, none⟩ (.int .i64 ((rd_T137 l0_6 x30_2).f0))).setCell ⟨gb240, 1, none⟩ (.int .i64 ((rd_T137 l0_6 x30_2).f1))).setCell ⟨gb240, 2, none⟩ (.string ((rd_T137 l0_6 x30_2).f2))).heap[gb240]? = some (.cells #[.int .i64 ((rd_T137 l0_6 x30_2).f0), .int .i64 ((rd_T137 l0_6 x30_2).f1), .string ((rd_T137 l0_6 x30_2).f2)] 137 (0, 0))) := ⟨by (with_reducible repeat (first | apply qa8 | apply qb8 | apply qc8)); refine blk_put (cs := #[.int .i64 ((rd_T137 l0_6 x30_2).f0), .int .i64 ((rd_T137 l0_6 x30_2).f1), .string (⟨#[]⟩ : ByteArray)]) ?_ 2 _ rfl; (with_reducible repeat (first | apply qa8 | apply qb8 | apply qc8)); refine blk_put (cs := #[.int .i64 ((rd_T137 l0_6 x30_2).f0), .int .i64 0, .string (⟨#[]⟩ : ByteArray)]) ?_ 1 _ rfl; (with_reducible repeat (first | apply qa8 | apply qb8 | apply qc8)); refine blk_put (cs := #[.int .i64 0, .int .i64 0, .string (⟨#[]⟩ : ByteArray)]) ?_ 0 _ rfl; (with_reducible repeat (first | apply qa8 | apply qb8 | apply qc8)); exact BK240.out⟩
                              have n2_ : Aside0 (Below w.heap.size w (((w30.setCell ⟨gb240, 0, none⟩ (.int .i64 ((rd_T137 l0_6 x30_2).f0))).setCell ⟨gb240, 1, none⟩ (.int .i64 ((rd_T137 l0_6 x30_2).f1))).setCell ⟨gb240, 2, none⟩ (.string ((rd_T137 l0_6 x30_2).f2)))) := ⟨by repeat (first | (with_reducible first | exact HB.out | apply qd8 | apply qe8 | apply qf8 | refine qg8 ?_ GE237.out | refine qg8 ?_ GE240.out) | exact HB.out)⟩
                              (try clear BK237)
                              (try clear BK240)
                              (try clear HB)
                              generalize (((w30.setCell ⟨gb240, 0, none⟩ (.int .i64 ((rd_T137 l0_6 x30_2).f0))).setCell ⟨gb240, 1, none⟩ (.int .i64 ((rd_T137 l0_6 x30_2).f1))).setCell ⟨gb240, 2, none⟩ (.string ((rd_T137 l0_6 x30_2).f2))) = w33 at n0_ n1_ n2_ ⊢
                              have BK237 := n0_
                              have BK240 := n1_
                              have HB := n2_
                              clear n0_ n1_ n2_
                              have n0_ := qh8 (qb8 BK237.out)
                              have n1_ := qh8 (qb8 BK240.out)
                              have n2_ := qh8 (qf8 HB.out)
                              clear BK237
                              clear BK240
                              clear HB
                              have BK237 := n0_
                              have BK240 := n1_
                              have HB := n2_
                              clear n0_ n1_ n2_
                              have p242 : 0 ≤ ((ji26) : Int) := of_decide_eq_true (by first | (with_reducible assumption) | assumption)
                              have q242 : (ji26) < (l0_6.length : Int) := of_decide_eq_true (by first | (with_reducible assumption) | assumption)
                              obtain ⟨ad242, e242, hx242_0, hx242_1, hx242_2⟩ := at_T137 HR0_6.out (ji26) p242 q242
                              have hw242_2 := hx242_2
                              have hw242_1 := hx242_1
                              have hw242_0 := hx242_0
                              obtain rfl : ad239 = ad242 := (by injection e242)
                              replace hx242_0 := (HB.out.cell (World.block_lt_of_cell? w _ hx242_0)).trans hx242_0
                              replace hx242_1 := (HB.out.cell (World.block_lt_of_cell? w _ hx242_1)).trans hx242_1
                              replace hx242_2 := (HB.out.cell (World.block_lt_of_cell? w _ hx242_2)).trans hx242_2
                              replace p242 := eq_true p242
                              replace q242 := eq_true q242
                              refine start_ (n := 19) (S := fun w' => w'.cell? ⟨gb240, 0, none⟩ = some (.int .i64 ((rd_T137 l0_6 x30_2).f0)) ∧ w'.cell? ⟨gb240, 1, none⟩ = some (.int .i64 ((rd_T137 l0_6 x30_2).f1)) ∧ w'.cell? ⟨gb240, 2, none⟩ = some (.string ((rd_T137 l0_6 x30_2).f2)) ∧ w'.cell? ⟨gb237, 0, none⟩ = some (.bool false) ∧ w'.cell? ⟨gb237, 1, none⟩ = some (.int .i64 a0_1) ∧ w'.cell? ⟨gb237, 2, none⟩ = some (.int .i64 a0_2) ∧ w'.cell? ⟨gb237, 3, none⟩ = some (.int .i64 a0_3) ∧ w'.cell? ⟨gb237, 4, none⟩ = some (.int .i64 a0_4) ∧ w'.cell? ⟨gb237, 5, none⟩ = some (.string a0_5) ∧ w'.cell? ⟨gb237, 6, none⟩ = some (.slice (some ad239) l0_6.length c0_6) ∧ w'.cell? (ad239.add (((ji26)).toNat * 3)) = some (.int .i64 ((rd_T137 l0_6 (ji26)).f0)) ∧ w'.cell? ⟨(ad239.add (((ji26)).toNat * 3)).block, (ad239.add (((ji26)).toNat * 3)).off + 1, none⟩ = some (.int .i64 ((rd_T137 l0_6 (ji26)).f1)) ∧ w'.cell? ⟨(ad239.add (((ji26)).toNat * 3)).block, (ad239.add (((ji26)).toNat * 3)).off + 2, none⟩ = some (.string ((rd_T137 l0_6 (ji26)).f2))) (ds := []) #[false, false, false, false, false, false, false, false, false, false, false, false, false, false, false, false, false, false, false] (by kernel_rfl) rfl rfl ⟨(blk_cell BK240.out 0).trans rfl, (blk_cell BK240.out 1).trans rfl, (blk_cell BK240.out 2).trans rfl, (blk_cell BK237.out 0).trans rfl, (blk_cell BK237.out 1).trans rfl, (blk_cell BK237.out 2).trans rfl, (blk_cell BK237.out 3).trans rfl, (blk_cell BK237.out 4).trans rfl, (blk_cell BK237.out 5).trans rfl, (blk_cell BK237.out 6).trans rfl, ((HB.out.cell (World.block_lt_of_cell? w _ hw242_0)).trans hw242_0), ((HB.out.cell (World.block_lt_of_cell? w _ hw242_1)).trans hw242_1), ((HB.out.cell (World.block_lt_of_cell? w _ hw242_2)).trans hw242_2)⟩ (fun hHeld => ?_); refine with_tabW impl_isBatch.tab8 impl_isBatch.bits8 (fun HT_ HW_ => ?_)
                              generalize w33.drew = w34 at BK237 BK240 HB hx242_0 hx242_1 hx242_2 hHeld ⊢
                              refine take_ (i := 0) (N := some 35) (v := ?_) (a' := ?_) #[true, false, false, false, false, false, false, false, false, false, false, false, false, false, false, false, false, false, false] rfl rfl (take_ofW HT_.out HW_.out (by kernel_rfl)) (fun _ _ _ h => h) (Or.inl ⟨by rfl, ?_⟩) hHeld ?_ ?_
                              rotate_left
                              · rintro w' ⟨s0, s1, s2, s3, s4, s5, s6, s7, s8, s9, s10, s11, s12⟩
                                go_simp
                                with_reducible rfl
                              rotate_left
                              · simp only [Act.put, List.setIfInBounds_toArray, List.set_cons_zero, List.set_cons_succ, i64_w, i32_w]
                                rfl
                              refine one_ (i := 1) (N := some 36) #[true, true, false, false, false, false, false, false, false, false, false, false, false, false, false, false, false, false, false] rfl rfl (one_of HT_.out (by kernel_rfl)) (by decide) (fun K hK => ?_)
                              refine goes_ Try.func117 (by kernel_rfl) rfl #[.agg #[.int .i64 ((rd_T137 l0_6 x30_2).f0), .int .i64 ((rd_T137 l0_6 x30_2).f1), .string ((rd_T137 l0_6 x30_2).f2)]] (by rfl) rfl rfl (by (try simp only [List.map_toArray, List.map_cons, List.map_nil]); first | done | rfl | (simp only [List.length_drop, List.length_take]; rfl)) ?_
                              with_reducible refine (impl_isReading.calls ((rd_T137 l0_6 x30_2).f0) ((rd_T137 l0_6 x30_2).f1) ((rd_T137 l0_6 x30_2).f2) true _ A23.out).mono ?_
                              rintro e w35 ⟨rfl, hb⟩
                              refine ⟨_, rfl, ?_⟩
                              have n0_ := qh8 (blk_below (g := gb237) (o := .cells #[.bool false, .int .i64 a0_1, .int .i64 a0_2, .int .i64 a0_3, .int .i64 a0_4, .string a0_5, .slice (some ad239) l0_6.length c0_6] 60 (0, 0)) (by (with_reducible repeat (first | apply qa8 | apply qb8 | apply qc8)); exact BK237.out) hb)
                              have n1_ := qh8 (blk_below (g := gb240) (o := .cells #[.int .i64 ((rd_T137 l0_6 x30_2).f0), .int .i64 ((rd_T137 l0_6 x30_2).f1), .string ((rd_T137 l0_6 x30_2).f2)] 137 (0, 0)) (by (with_reducible repeat (first | apply qa8 | apply qb8 | apply qc8)); exact BK240.out) hb)
                              have n2_ := qh8 (below_step (by repeat (first | (with_reducible first | exact HB.out | apply qd8 | apply qe8 | apply qf8 | refine qg8 ?_ GE237.out | refine qg8 ?_ GE240.out) | exact HB.out)) hb)
                              clear BK237
                              clear BK240
                              clear HB
                              have BK237 := n0_
                              have BK240 := n1_
                              have HB := n2_
                              clear n0_ n1_ n2_
                              (try clear hb)
                              (try clear hb2)
                              (try clear hk)
                              (try clear hi)
                              refine hK.out _ _ ⟨(blk_cell BK240.out 0).trans rfl, (blk_cell BK240.out 1).trans rfl, (blk_cell BK240.out 2).trans rfl, (blk_cell BK237.out 0).trans rfl, (blk_cell BK237.out 1).trans rfl, (blk_cell BK237.out 2).trans rfl, (blk_cell BK237.out 3).trans rfl, (blk_cell BK237.out 4).trans rfl, (blk_cell BK237.out 5).trans rfl, (blk_cell BK237.out 6).trans rfl, ((HB.out.cell (World.block_lt_of_cell? w _ hw242_0)).trans hw242_0), ((HB.out.cell (World.block_lt_of_cell? w _ hw242_1)).trans hw242_1), ((HB.out.cell (World.block_lt_of_cell? w _ hw242_2)).trans hw242_2)⟩ (fun hHeld => ?_)
                              clear hK K
                              refine norm_ (a' := ?_) ?_ ?_
                              rotate_left
                              · show Act.put _ (some 36) _ = _
                                simp only [Act.put, List.setIfInBounds_toArray, List.set_cons_zero, List.set_cons_succ, i64_w, i32_w]
                                rfl
                              refine pure_ (i := 2) (N := some 37) (v := ?_) (a' := ?_) #[true, true, true, false, false, false, false, false, false, false, false, false, false, false, false, false, false, false, false] rfl rfl (any_of HT_.out (by kernel_rfl)) (fun _ _ _ h => h) (Or.inl ⟨by rfl, ?_⟩) ?_ ?_
                              rotate_left
                              · intro w'
                                go_simp
                                with_reducible rfl
                              rotate_left
                              · simp only [Act.put, List.setIfInBounds_toArray, List.set_cons_zero, List.set_cons_succ, i64_w, i32_w]
                                rfl
                              refine pure_ (i := 3) (N := some 38) (v := ?_) (a' := ?_) #[true, true, true, true, false, false, false, false, false, false, false, false, false, false, false, false, false, false, false] rfl rfl (any_of HT_.out (by kernel_rfl)) (fun _ _ _ h => h) (Or.inl ⟨by rfl, ?_⟩) ?_ ?_
                              rotate_left
                              · intro w'
                                go_simp
                                with_reducible rfl
                              rotate_left
                              · simp only [Act.put, List.setIfInBounds_toArray, List.set_cons_zero, List.set_cons_succ, i64_w, i32_w]
                                rfl
                              refine pure_ (i := 4) (N := some 39) (v := ?_) (a' := ?_) #[true, true, true, true, true, false, false, false, false, false, false, false, false, false, false, false, false, false, false] rfl rfl (any_of HT_.out (by kernel_rfl)) (fun _ _ _ h => h) (Or.inl ⟨by rfl, ?_⟩) ?_ ?_
                              rotate_left
                              · intro w'
                                go_simp
                                with_reducible rfl
                              rotate_left
                              · simp only [Act.put, List.setIfInBounds_toArray, List.set_cons_zero, List.set_cons_succ, i64_w, i32_w]
                                rfl
                              refine pure_ (i := 5) (N := some 40) (v := ?_) (a' := ?_) #[true, true, true, true, true, true, false, false, false, false, false, false, false, false, false, false, false, false, false] rfl rfl (any_of HT_.out (by kernel_rfl)) (fun _ _ _ h => h) (Or.inl ⟨by rfl, ?_⟩) ?_ ?_
                              rotate_left
                              · intro w'
                                go_simp
                                with_reducible rfl
                              rotate_left
                              · simp only [Act.put, List.setIfInBounds_toArray, List.set_cons_zero, List.set_cons_succ, i64_w, i32_w]
                                rfl
                              refine pure_ (i := 6) (N := some 41) (v := ?_) (a' := ?_) #[true, true, true, true, true, true, true, false, false, false, false, false, false, false, false, false, false, false, false] rfl rfl (any_of HT_.out (by kernel_rfl)) (fun _ _ _ h => h) (Or.inl ⟨by rfl, ?_⟩) ?_ ?_
                              rotate_left
                              · intro w'
                                go_simp
                                with_reducible rfl
                              rotate_left
                              · simp only [Act.put, List.setIfInBounds_toArray, List.set_cons_zero, List.set_cons_succ, i64_w, i32_w]
                                rfl
                              refine pure_ (i := 7) (N := some 42) (v := ?_) (a' := ?_) #[true, true, true, true, true, true, true, true, false, false, false, false, false, false, false, false, false, false, false] rfl rfl (any_of HT_.out (by kernel_rfl)) (fun _ _ _ h => h) (Or.inl ⟨by rfl, ?_⟩) ?_ ?_
                              rotate_left
                              · intro w'
                                go_simp
                                with_reducible rfl
                              rotate_left
                              · simp only [Act.put, List.setIfInBounds_toArray, List.set_cons_zero, List.set_cons_succ, i64_w, i32_w]
                                rfl
                              refine pure_ (i := 9) (N := some 44) (v := ?_) (a' := ?_) #[true, true, true, true, true, true, true, true, false, true, false, false, false, false, false, false, false, false, false] rfl rfl (any_of HT_.out (by kernel_rfl)) (fun _ _ _ h => h) (Or.inl ⟨by rfl, ?_⟩) ?_ ?_
                              rotate_left
                              · intro w'
                                go_simp
                                with_reducible rfl
                              rotate_left
                              · simp only [Act.put, List.setIfInBounds_toArray, List.set_cons_zero, List.set_cons_succ, i64_w, i32_w]
                                rfl
                              refine pure_ (i := 10) (N := some 45) (v := ?_) (a' := ?_) #[true, true, true, true, true, true, true, true, false, true, true, false, false, false, false, false, false, false, false] rfl rfl (any_of HT_.out (by kernel_rfl)) (fun _ _ _ h => h) (Or.inl ⟨by rfl, ?_⟩) ?_ ?_
                              rotate_left
                              · intro w'
                                go_simp
                                with_reducible rfl
                              rotate_left
                              · simp only [Act.put, List.setIfInBounds_toArray, List.set_cons_zero, List.set_cons_succ, i64_w, i32_w]
                                rfl
                              refine pure_ (i := 14) (N := some 49) (v := ?_) (a' := ?_) #[true, true, true, true, true, true, true, true, false, true, true, false, false, false, true, false, false, false, false] rfl rfl (any_of HT_.out (by kernel_rfl)) (fun _ _ _ h => h) (Or.inl ⟨by rfl, ?_⟩) ?_ ?_
                              rotate_left
                              · intro w'
                                go_simp
                                with_reducible rfl
                              rotate_left
                              · simp only [Act.put, List.setIfInBounds_toArray, List.set_cons_zero, List.set_cons_succ, i64_w, i32_w]
                                rfl
                              refine take_ (i := 8) (N := some 43) (v := ?_) (a' := ?_) #[true, true, true, true, true, true, true, true, true, true, true, false, false, false, true, false, false, false, false] rfl rfl (take_ofW HT_.out HW_.out (by kernel_rfl)) (fun _ _ _ h => h) (Or.inl ⟨by rfl, ?_⟩) hHeld ?_ ?_
                              rotate_left
                              · rintro w' ⟨s0, s1, s2, s3, s4, s5, s6, s7, s8, s9, s10, s11, s12⟩
                                go_simp
                                with_reducible rfl
                              rotate_left
                              · simp only [Act.put, List.setIfInBounds_toArray, List.set_cons_zero, List.set_cons_succ, i64_w, i32_w]
                                rfl
                              refine pure_ (i := 11) (N := some 46) (v := ?_) (a' := ?_) #[true, true, true, true, true, true, true, true, true, true, true, true, false, false, true, false, false, false, false] rfl rfl (any_of HT_.out (by kernel_rfl)) (fun _ _ _ h => h) (Or.inl ⟨by rfl, ?_⟩) ?_ ?_
                              rotate_left
                              · intro w'
                                go_simp
                                with_reducible rfl
                              rotate_left
                              · simp only [Act.put, List.setIfInBounds_toArray, List.set_cons_zero, List.set_cons_succ, i64_w, i32_w]
                                rfl
                              refine pure_ (i := 12) (N := some 47) (v := ?_) (a' := ?_) #[true, true, true, true, true, true, true, true, true, true, true, true, true, false, true, false, false, false, false] rfl rfl (any_of HT_.out (by kernel_rfl)) (fun _ _ _ h => h) (Or.inl ⟨by rfl, ?_⟩) ?_ ?_
                              rotate_left
                              · intro w'
                                go_simp
                                with_reducible rfl
                              rotate_left
                              · simp only [Act.put, List.setIfInBounds_toArray, List.set_cons_zero, List.set_cons_succ, i64_w, i32_w]
                                rfl
                              refine take_ (i := 13) (N := some 48) (v := ?_) (a' := ?_) #[true, true, true, true, true, true, true, true, true, true, true, true, true, true, true, false, false, false, false] rfl rfl (take_ofW HT_.out HW_.out (by kernel_rfl)) (fun _ _ _ h => h) (Or.inl ⟨by rfl, ?_⟩) hHeld ?_ ?_
                              rotate_left
                              · rintro w' ⟨s0, s1, s2, s3, s4, s5, s6, s7, s8, s9, s10, s11, s12⟩
                                go_simp
                                with_reducible rfl
                              rotate_left
                              · simp only [Act.put, List.setIfInBounds_toArray, List.set_cons_zero, List.set_cons_succ, i64_w, i32_w]
                                rfl
                              refine take_ (i := 15) (N := some 50) (v := ?_) (a' := ?_) #[true, true, true, true, true, true, true, true, true, true, true, true, true, true, true, true, false, false, false] rfl rfl (take_ofW HT_.out HW_.out (by kernel_rfl)) (fun _ _ _ h => h) (Or.inl ⟨by rfl, ?_⟩) hHeld ?_ ?_
                              rotate_left
                              · rintro w' ⟨s0, s1, s2, s3, s4, s5, s6, s7, s8, s9, s10, s11, s12⟩
                                go_simp
                                with_reducible rfl
                              rotate_left
                              · simp only [Act.put, List.setIfInBounds_toArray, List.set_cons_zero, List.set_cons_succ, i64_w, i32_w]
                                rfl
                              refine pure_ (i := 16) (N := some 51) (v := ?_) (a' := ?_) #[true, true, true, true, true, true, true, true, true, true, true, true, true, true, true, true, true, false, false] rfl rfl (any_of HT_.out (by kernel_rfl)) (fun _ _ _ h => h) (Or.inl ⟨by rfl, ?_⟩) ?_ ?_
                              rotate_left
                              · intro w'
                                go_simp
                                with_reducible rfl
                              rotate_left
                              · simp only [Act.put, List.setIfInBounds_toArray, List.set_cons_zero, List.set_cons_succ, i64_w, i32_w]
                                rfl
                              refine pure_ (i := 17) (N := some 52) (v := ?_) (a' := ?_) #[true, true, true, true, true, true, true, true, true, true, true, true, true, true, true, true, true, true, false] rfl rfl (any_of HT_.out (by kernel_rfl)) (fun _ _ _ h => h) (Or.inl ⟨by rfl, ?_⟩) ?_ ?_
                              rotate_left
                              · intro w'
                                go_simp
                                with_reducible rfl
                              rotate_left
                              · simp only [Act.put, List.setIfInBounds_toArray, List.set_cons_zero, List.set_cons_succ, i64_w, i32_w]
                                rfl
                              refine pure_ (i := 18) (N := some 53) (v := ?_) (a' := ?_) #[true, true, true, true, true, true, true, true, true, true, true, true, true, true, true, true, true, true, true] rfl rfl (any_of HT_.out (by kernel_rfl)) (fun _ _ _ h => h) (Or.inl ⟨by rfl, ?_⟩) ?_ ?_
                              rotate_left
                              · intro w'
                                go_simp
                                with_reducible rfl
                              rotate_left
                              · simp only [Act.put, List.setIfInBounds_toArray, List.set_cons_zero, List.set_cons_succ, i64_w, i32_w]
                                rfl
                              refine done_ (done_of HT_.out (by kernel_rfl)) ?_
                              try go_wp2
                              go_ret
                              exact ⟨by first | rfl | (simp [errW_none, errW_some] <;> rfl) | (simp only [← hji26]; first | rfl | (simp [errW_none, errW_some] <;> rfl)) | (simp [*, errW_none, errW_some] <;> rfl), by repeat (first | (with_reducible first | exact HB.out | apply qd8 | apply qe8 | apply qf8 | refine qg8 ?_ GE237.out | refine qg8 ?_ GE240.out) | exact HB.out)⟩
                            · rw [if_neg c29] at H
                              have c29b0 : decide (((rd_T137 l0_6 x30_2).f0) ≤ ((rd_T137 l0_6 (ji26)).f0)) = false := decide_eq_false c29
                              clear c29
                              have H' := qh8 H
                              clear H
                              have p239 : 0 ≤ (x30_2 : Int) := of_decide_eq_true (by first | (with_reducible assumption) | assumption)
                              have q239 : x30_2 < (l0_6.length : Int) := of_decide_eq_true (by first | (with_reducible assumption) | assumption)
                              obtain ⟨ad239, e239, hx239_0, hx239_1, hx239_2⟩ := at_T137 HR0_6.out x30_2 p239 q239
                              cases e239
                              replace hx239_0 := (HB.out.cell (World.block_lt_of_cell? w _ hx239_0)).trans hx239_0
                              replace hx239_1 := (HB.out.cell (World.block_lt_of_cell? w _ hx239_1)).trans hx239_1
                              replace hx239_2 := (HB.out.cell (World.block_lt_of_cell? w _ hx239_2)).trans hx239_2
                              replace p239 := eq_true p239
                              replace q239 := eq_true q239
                              try go_wp2_with (first | ((with_reducible refine gate_dst (N := 4) rfl ?_); refine box_event ?hg (N := 4) ?hd (cs := #[.int .i64 0, .int .i64 0, .string (⟨#[]⟩ : ByteArray)]) (t := 137) ?hr ?_; (case hd => rfl); (case hg => rfl); (case hr => first | (go_simp; done) | (go_simp; rfl)); intro gb240 hg w36 hbox hb; have n0_ := qh8 (blk_below (g := gb237) (o := .cells #[.bool false, .int .i64 a0_1, .int .i64 a0_2, .int .i64 a0_3, .int .i64 a0_4, .string a0_5, .slice (some ad239) l0_6.length c0_6] 60 (0, 0)) (by (with_reducible repeat (first | apply qa8 | apply qb8 | apply qc8)); exact BK237.out) hb); have n1_ := qh8 (below_step (by repeat (first | (with_reducible first | exact HB.out | apply qd8 | apply qe8 | apply qf8 | refine qg8 ?_ GE237.out) | exact HB.out)) hb); have n2_ := qh8 (hbox); have n3_ := qh8 ((by rw [hg]; exact (below_size (by repeat (first | (with_reducible first | exact HB.out | apply qd8 | apply qe8 | apply qf8 | refine qg8 ?_ GE237.out) | exact HB.out))) : w.heap.size ≤ gb240)); have n4_ := qh8 ((by rw [hg]; exact (below_size (by repeat (first | (with_reducible first | exact HB.out | apply qd8 | apply qe8 | apply qf8 | refine qg8 ?_ GE237.out) | exact HB.out))) : w.heap.size ≤ gb240)); have n5_ := qh8 ((by rw [hg]; exact Nat.ne_of_lt (blk_lt (g := gb237) (o := .cells #[.bool false, .int .i64 a0_1, .int .i64 a0_2, .int .i64 a0_3, .int .i64 a0_4, .string a0_5, .slice (some ad239) l0_6.length c0_6] 60 (0, 0)) (by (with_reducible repeat (first | apply qa8 | apply qb8 | apply qc8)); exact BK237.out)) : gb237 ≠ gb240)); have n6_ := qh8 ((by rw [hg]; exact Nat.ne_of_gt (blk_lt (g := gb237) (o := .cells #[.bool false, .int .i64 a0_1, .int .i64 a0_2, .int .i64 a0_3, .int .i64 a0_4, .string a0_5, .slice (some ad239) l0_6.length c0_6] 60 (0, 0)) (by (with_reducible repeat (first | apply qa8 | apply qb8 | apply qc8)); exact BK237.out)) : gb240 ≠ gb237)); clear BK237; clear HB; have BK237 := n0_; have HB := n1_; have BK240 := n2_; have GW240 := n3_; have GE240 := n4_; have NB237_240 := n5_; have NB240_237 := n6_; clear n0_ n1_ n2_ n3_ n4_ n5_ n6_; clear hb hbox hg; have hnb37 := NB240_237.out; have hnc37 := NB237_240.out; have hcz38_0 : w36.cell? ⟨gb240, 0, none⟩ = some (.int .i64 0) := (blk_cell BK240.out 0).trans rfl; have hcz38_1 : w36.cell? ⟨gb240, 1, none⟩ = some (.int .i64 0) := (blk_cell BK240.out 1).trans rfl; have hcz38_2 : w36.cell? ⟨gb240, 2, none⟩ = some (.string (⟨#[]⟩ : ByteArray)) := (blk_cell BK240.out 2).trans rfl; have hfz38_0 := blk_frozen BK240.out 0; have hfz38_1 := blk_frozen BK240.out 1; have hfz38_2 := blk_frozen BK240.out 2))
                              have n0_ : Aside0 ((((w36.setCell ⟨gb240, 0, none⟩ (.int .i64 ((rd_T137 l0_6 x30_2).f0))).setCell ⟨gb240, 1, none⟩ (.int .i64 ((rd_T137 l0_6 x30_2).f1))).setCell ⟨gb240, 2, none⟩ (.string ((rd_T137 l0_6 x30_2).f2))).heap[gb237]? = some (.cells #[.bool false, .int .i64 a0_1, .int .i64 a0_2, .int .i64 a0_3, .int .i64 a0_4, .string a0_5, .slice (some ad239) l0_6.length c0_6] 60 (0, 0))) := ⟨by (with_reducible repeat (first | apply qa8 | apply qb8 | apply qc8)); refine blk_far ?_ NB237_240.out _; (with_reducible repeat (first | apply qa8 | apply qb8 | apply qc8)); refine blk_far ?_ NB237_240.out _; (with_reducible repeat (first | apply qa8 | apply qb8 | apply qc8)); refine blk_far ?_ NB237_240.out _; (with_reducible repeat (first | apply qa8 | apply qb8 | apply qc8)); exact BK237.out⟩
                              have n1_ : Aside0 ((((w36.setCell ⟨gb240, 0, none⟩ (.int .i64 ((rd_T137 l0_6 x30_2).f0))).setCell ⟨gb240, 1, none⟩ (.int .i64 ((rd_T137 l0_6 x30_2).f1))).setCell ⟨gb240, 2, none⟩ (.string ((rd_T137 l0_6 x30_2).f2))).heap[gb240]? = some (.cells #[.int .i64 ((rd_T137 l0_6 x30_2).f0), .int .i64 ((rd_T137 l0_6 x30_2).f1), .string ((rd_T137 l0_6 x30_2).f2)] 137 (0, 0))) := ⟨by (with_reducible repeat (first | apply qa8 | apply qb8 | apply qc8)); refine blk_put (cs := #[.int .i64 ((rd_T137 l0_6 x30_2).f0), .int .i64 ((rd_T137 l0_6 x30_2).f1), .string (⟨#[]⟩ : ByteArray)]) ?_ 2 _ rfl; (with_reducible repeat (first | apply qa8 | apply qb8 | apply qc8)); refine blk_put (cs := #[.int .i64 ((rd_T137 l0_6 x30_2).f0), .int .i64 0, .string (⟨#[]⟩ : ByteArray)]) ?_ 1 _ rfl; (with_reducible repeat (first | apply qa8 | apply qb8 | apply qc8)); refine blk_put (cs := #[.int .i64 0, .int .i64 0, .string (⟨#[]⟩ : ByteArray)]) ?_ 0 _ rfl; (with_reducible repeat (first | apply qa8 | apply qb8 | apply qc8)); exact BK240.out⟩
                              have n2_ : Aside0 (Below w.heap.size w (((w36.setCell ⟨gb240, 0, none⟩ (.int .i64 ((rd_T137 l0_6 x30_2).f0))).setCell ⟨gb240, 1, none⟩ (.int .i64 ((rd_T137 l0_6 x30_2).f1))).setCell ⟨gb240, 2, none⟩ (.string ((rd_T137 l0_6 x30_2).f2)))) := ⟨by repeat (first | (with_reducible first | exact HB.out | apply qd8 | apply qe8 | apply qf8 | refine qg8 ?_ GE237.out | refine qg8 ?_ GE240.out) | exact HB.out)⟩
                              (try clear BK237)
                              (try clear BK240)
                              (try clear HB)
                              generalize (((w36.setCell ⟨gb240, 0, none⟩ (.int .i64 ((rd_T137 l0_6 x30_2).f0))).setCell ⟨gb240, 1, none⟩ (.int .i64 ((rd_T137 l0_6 x30_2).f1))).setCell ⟨gb240, 2, none⟩ (.string ((rd_T137 l0_6 x30_2).f2))) = w39 at n0_ n1_ n2_ ⊢
                              have BK237 := n0_
                              have BK240 := n1_
                              have HB := n2_
                              clear n0_ n1_ n2_
                              have n0_ := qh8 (qb8 BK237.out)
                              have n1_ := qh8 (qb8 BK240.out)
                              have n2_ := qh8 (qf8 HB.out)
                              clear BK237
                              clear BK240
                              clear HB
                              have BK237 := n0_
                              have BK240 := n1_
                              have HB := n2_
                              clear n0_ n1_ n2_
                              have p242 : 0 ≤ ((ji26) : Int) := of_decide_eq_true (by first | (with_reducible assumption) | assumption)
                              have q242 : (ji26) < (l0_6.length : Int) := of_decide_eq_true (by first | (with_reducible assumption) | assumption)
                              obtain ⟨ad242, e242, hx242_0, hx242_1, hx242_2⟩ := at_T137 HR0_6.out (ji26) p242 q242
                              have hw242_2 := hx242_2
                              have hw242_1 := hx242_1
                              have hw242_0 := hx242_0
                              obtain rfl : ad239 = ad242 := (by injection e242)
                              replace hx242_0 := (HB.out.cell (World.block_lt_of_cell? w _ hx242_0)).trans hx242_0
                              replace hx242_1 := (HB.out.cell (World.block_lt_of_cell? w _ hx242_1)).trans hx242_1
                              replace hx242_2 := (HB.out.cell (World.block_lt_of_cell? w _ hx242_2)).trans hx242_2
                              replace p242 := eq_true p242
                              replace q242 := eq_true q242
                              refine start_ (n := 19) (S := fun w' => w'.cell? ⟨gb240, 0, none⟩ = some (.int .i64 ((rd_T137 l0_6 x30_2).f0)) ∧ w'.cell? ⟨gb240, 1, none⟩ = some (.int .i64 ((rd_T137 l0_6 x30_2).f1)) ∧ w'.cell? ⟨gb240, 2, none⟩ = some (.string ((rd_T137 l0_6 x30_2).f2)) ∧ w'.cell? ⟨gb237, 0, none⟩ = some (.bool false) ∧ w'.cell? ⟨gb237, 1, none⟩ = some (.int .i64 a0_1) ∧ w'.cell? ⟨gb237, 2, none⟩ = some (.int .i64 a0_2) ∧ w'.cell? ⟨gb237, 3, none⟩ = some (.int .i64 a0_3) ∧ w'.cell? ⟨gb237, 4, none⟩ = some (.int .i64 a0_4) ∧ w'.cell? ⟨gb237, 5, none⟩ = some (.string a0_5) ∧ w'.cell? ⟨gb237, 6, none⟩ = some (.slice (some ad239) l0_6.length c0_6) ∧ w'.cell? (ad239.add (((ji26)).toNat * 3)) = some (.int .i64 ((rd_T137 l0_6 (ji26)).f0)) ∧ w'.cell? ⟨(ad239.add (((ji26)).toNat * 3)).block, (ad239.add (((ji26)).toNat * 3)).off + 1, none⟩ = some (.int .i64 ((rd_T137 l0_6 (ji26)).f1)) ∧ w'.cell? ⟨(ad239.add (((ji26)).toNat * 3)).block, (ad239.add (((ji26)).toNat * 3)).off + 2, none⟩ = some (.string ((rd_T137 l0_6 (ji26)).f2))) (ds := []) #[false, false, false, false, false, false, false, false, false, false, false, false, false, false, false, false, false, false, false] (by kernel_rfl) rfl rfl ⟨(blk_cell BK240.out 0).trans rfl, (blk_cell BK240.out 1).trans rfl, (blk_cell BK240.out 2).trans rfl, (blk_cell BK237.out 0).trans rfl, (blk_cell BK237.out 1).trans rfl, (blk_cell BK237.out 2).trans rfl, (blk_cell BK237.out 3).trans rfl, (blk_cell BK237.out 4).trans rfl, (blk_cell BK237.out 5).trans rfl, (blk_cell BK237.out 6).trans rfl, ((HB.out.cell (World.block_lt_of_cell? w _ hw242_0)).trans hw242_0), ((HB.out.cell (World.block_lt_of_cell? w _ hw242_1)).trans hw242_1), ((HB.out.cell (World.block_lt_of_cell? w _ hw242_2)).trans hw242_2)⟩ (fun hHeld => ?_); refine with_tabW impl_isBatch.tab8 impl_isBatch.bits8 (fun HT_ HW_ => ?_)
                              generalize w39.drew = w40 at BK237 BK240 HB hx242_0 hx242_1 hx242_2 hHeld ⊢
                              refine take_ (i := 0) (N := some 35) (v := ?_) (a' := ?_) #[true, false, false, false, false, false, false, false, false, false, false, false, false, false, false, false, false, false, false] rfl rfl (take_ofW HT_.out HW_.out (by kernel_rfl)) (fun _ _ _ h => h) (Or.inl ⟨by rfl, ?_⟩) hHeld ?_ ?_
                              rotate_left
                              · rintro w' ⟨s0, s1, s2, s3, s4, s5, s6, s7, s8, s9, s10, s11, s12⟩
                                go_simp
                                with_reducible rfl
                              rotate_left
                              · simp only [Act.put, List.setIfInBounds_toArray, List.set_cons_zero, List.set_cons_succ, i64_w, i32_w]
                                rfl
                              refine one_ (i := 1) (N := some 36) #[true, true, false, false, false, false, false, false, false, false, false, false, false, false, false, false, false, false, false] rfl rfl (one_of HT_.out (by kernel_rfl)) (by decide) (fun K hK => ?_)
                              refine goes_ Try.func117 (by kernel_rfl) rfl #[.agg #[.int .i64 ((rd_T137 l0_6 x30_2).f0), .int .i64 ((rd_T137 l0_6 x30_2).f1), .string ((rd_T137 l0_6 x30_2).f2)]] (by rfl) rfl rfl (by (try simp only [List.map_toArray, List.map_cons, List.map_nil]); first | done | rfl | (simp only [List.length_drop, List.length_take]; rfl)) ?_
                              with_reducible refine (impl_isReading.calls ((rd_T137 l0_6 x30_2).f0) ((rd_T137 l0_6 x30_2).f1) ((rd_T137 l0_6 x30_2).f2) true _ A23.out).mono ?_
                              rintro e w41 ⟨rfl, hb⟩
                              refine ⟨_, rfl, ?_⟩
                              have n0_ := qh8 (blk_below (g := gb237) (o := .cells #[.bool false, .int .i64 a0_1, .int .i64 a0_2, .int .i64 a0_3, .int .i64 a0_4, .string a0_5, .slice (some ad239) l0_6.length c0_6] 60 (0, 0)) (by (with_reducible repeat (first | apply qa8 | apply qb8 | apply qc8)); exact BK237.out) hb)
                              have n1_ := qh8 (blk_below (g := gb240) (o := .cells #[.int .i64 ((rd_T137 l0_6 x30_2).f0), .int .i64 ((rd_T137 l0_6 x30_2).f1), .string ((rd_T137 l0_6 x30_2).f2)] 137 (0, 0)) (by (with_reducible repeat (first | apply qa8 | apply qb8 | apply qc8)); exact BK240.out) hb)
                              have n2_ := qh8 (below_step (by repeat (first | (with_reducible first | exact HB.out | apply qd8 | apply qe8 | apply qf8 | refine qg8 ?_ GE237.out | refine qg8 ?_ GE240.out) | exact HB.out)) hb)
                              clear BK237
                              clear BK240
                              clear HB
                              have BK237 := n0_
                              have BK240 := n1_
                              have HB := n2_
                              clear n0_ n1_ n2_
                              (try clear hb)
                              (try clear hb2)
                              (try clear hk)
                              (try clear hi)
                              refine hK.out _ _ ⟨(blk_cell BK240.out 0).trans rfl, (blk_cell BK240.out 1).trans rfl, (blk_cell BK240.out 2).trans rfl, (blk_cell BK237.out 0).trans rfl, (blk_cell BK237.out 1).trans rfl, (blk_cell BK237.out 2).trans rfl, (blk_cell BK237.out 3).trans rfl, (blk_cell BK237.out 4).trans rfl, (blk_cell BK237.out 5).trans rfl, (blk_cell BK237.out 6).trans rfl, ((HB.out.cell (World.block_lt_of_cell? w _ hw242_0)).trans hw242_0), ((HB.out.cell (World.block_lt_of_cell? w _ hw242_1)).trans hw242_1), ((HB.out.cell (World.block_lt_of_cell? w _ hw242_2)).trans hw242_2)⟩ (fun hHeld => ?_)
                              clear hK K
                              refine norm_ (a' := ?_) ?_ ?_
                              rotate_left
                              · show Act.put _ (some 36) _ = _
                                simp only [Act.put, List.setIfInBounds_toArray, List.set_cons_zero, List.set_cons_succ, i64_w, i32_w]
                                rfl
                              refine pure_ (i := 2) (N := some 37) (v := ?_) (a' := ?_) #[true, true, true, false, false, false, false, false, false, false, false, false, false, false, false, false, false, false, false] rfl rfl (any_of HT_.out (by kernel_rfl)) (fun _ _ _ h => h) (Or.inl ⟨by rfl, ?_⟩) ?_ ?_
                              rotate_left
                              · intro w'
                                go_simp
                                with_reducible rfl
                              rotate_left
                              · simp only [Act.put, List.setIfInBounds_toArray, List.set_cons_zero, List.set_cons_succ, i64_w, i32_w]
                                rfl
                              refine pure_ (i := 3) (N := some 38) (v := ?_) (a' := ?_) #[true, true, true, true, false, false, false, false, false, false, false, false, false, false, false, false, false, false, false] rfl rfl (any_of HT_.out (by kernel_rfl)) (fun _ _ _ h => h) (Or.inl ⟨by rfl, ?_⟩) ?_ ?_
                              rotate_left
                              · intro w'
                                go_simp
                                with_reducible rfl
                              rotate_left
                              · simp only [Act.put, List.setIfInBounds_toArray, List.set_cons_zero, List.set_cons_succ, i64_w, i32_w]
                                rfl
                              refine pure_ (i := 4) (N := some 39) (v := ?_) (a' := ?_) #[true, true, true, true, true, false, false, false, false, false, false, false, false, false, false, false, false, false, false] rfl rfl (any_of HT_.out (by kernel_rfl)) (fun _ _ _ h => h) (Or.inl ⟨by rfl, ?_⟩) ?_ ?_
                              rotate_left
                              · intro w'
                                go_simp
                                with_reducible rfl
                              rotate_left
                              · simp only [Act.put, List.setIfInBounds_toArray, List.set_cons_zero, List.set_cons_succ, i64_w, i32_w]
                                rfl
                              refine pure_ (i := 5) (N := some 40) (v := ?_) (a' := ?_) #[true, true, true, true, true, true, false, false, false, false, false, false, false, false, false, false, false, false, false] rfl rfl (any_of HT_.out (by kernel_rfl)) (fun _ _ _ h => h) (Or.inl ⟨by rfl, ?_⟩) ?_ ?_
                              rotate_left
                              · intro w'
                                go_simp
                                with_reducible rfl
                              rotate_left
                              · simp only [Act.put, List.setIfInBounds_toArray, List.set_cons_zero, List.set_cons_succ, i64_w, i32_w]
                                rfl
                              refine pure_ (i := 6) (N := some 41) (v := ?_) (a' := ?_) #[true, true, true, true, true, true, true, false, false, false, false, false, false, false, false, false, false, false, false] rfl rfl (any_of HT_.out (by kernel_rfl)) (fun _ _ _ h => h) (Or.inl ⟨by rfl, ?_⟩) ?_ ?_
                              rotate_left
                              · intro w'
                                go_simp
                                with_reducible rfl
                              rotate_left
                              · simp only [Act.put, List.setIfInBounds_toArray, List.set_cons_zero, List.set_cons_succ, i64_w, i32_w]
                                rfl
                              refine pure_ (i := 7) (N := some 42) (v := ?_) (a' := ?_) #[true, true, true, true, true, true, true, true, false, false, false, false, false, false, false, false, false, false, false] rfl rfl (any_of HT_.out (by kernel_rfl)) (fun _ _ _ h => h) (Or.inl ⟨by rfl, ?_⟩) ?_ ?_
                              rotate_left
                              · intro w'
                                go_simp
                                with_reducible rfl
                              rotate_left
                              · simp only [Act.put, List.setIfInBounds_toArray, List.set_cons_zero, List.set_cons_succ, i64_w, i32_w]
                                rfl
                              refine pure_ (i := 9) (N := some 44) (v := ?_) (a' := ?_) #[true, true, true, true, true, true, true, true, false, true, false, false, false, false, false, false, false, false, false] rfl rfl (any_of HT_.out (by kernel_rfl)) (fun _ _ _ h => h) (Or.inl ⟨by rfl, ?_⟩) ?_ ?_
                              rotate_left
                              · intro w'
                                go_simp
                                with_reducible rfl
                              rotate_left
                              · simp only [Act.put, List.setIfInBounds_toArray, List.set_cons_zero, List.set_cons_succ, i64_w, i32_w]
                                rfl
                              refine pure_ (i := 10) (N := some 45) (v := ?_) (a' := ?_) #[true, true, true, true, true, true, true, true, false, true, true, false, false, false, false, false, false, false, false] rfl rfl (any_of HT_.out (by kernel_rfl)) (fun _ _ _ h => h) (Or.inl ⟨by rfl, ?_⟩) ?_ ?_
                              rotate_left
                              · intro w'
                                go_simp
                                with_reducible rfl
                              rotate_left
                              · simp only [Act.put, List.setIfInBounds_toArray, List.set_cons_zero, List.set_cons_succ, i64_w, i32_w]
                                rfl
                              refine pure_ (i := 14) (N := some 49) (v := ?_) (a' := ?_) #[true, true, true, true, true, true, true, true, false, true, true, false, false, false, true, false, false, false, false] rfl rfl (any_of HT_.out (by kernel_rfl)) (fun _ _ _ h => h) (Or.inl ⟨by rfl, ?_⟩) ?_ ?_
                              rotate_left
                              · intro w'
                                go_simp
                                with_reducible rfl
                              rotate_left
                              · simp only [Act.put, List.setIfInBounds_toArray, List.set_cons_zero, List.set_cons_succ, i64_w, i32_w]
                                rfl
                              refine take_ (i := 8) (N := some 43) (v := ?_) (a' := ?_) #[true, true, true, true, true, true, true, true, true, true, true, false, false, false, true, false, false, false, false] rfl rfl (take_ofW HT_.out HW_.out (by kernel_rfl)) (fun _ _ _ h => h) (Or.inl ⟨by rfl, ?_⟩) hHeld ?_ ?_
                              rotate_left
                              · rintro w' ⟨s0, s1, s2, s3, s4, s5, s6, s7, s8, s9, s10, s11, s12⟩
                                go_simp
                                with_reducible rfl
                              rotate_left
                              · simp only [Act.put, List.setIfInBounds_toArray, List.set_cons_zero, List.set_cons_succ, i64_w, i32_w]
                                rfl
                              refine pure_ (i := 11) (N := some 46) (v := ?_) (a' := ?_) #[true, true, true, true, true, true, true, true, true, true, true, true, false, false, true, false, false, false, false] rfl rfl (any_of HT_.out (by kernel_rfl)) (fun _ _ _ h => h) (Or.inl ⟨by rfl, ?_⟩) ?_ ?_
                              rotate_left
                              · intro w'
                                go_simp
                                with_reducible rfl
                              rotate_left
                              · simp only [Act.put, List.setIfInBounds_toArray, List.set_cons_zero, List.set_cons_succ, i64_w, i32_w]
                                rfl
                              refine pure_ (i := 12) (N := some 47) (v := ?_) (a' := ?_) #[true, true, true, true, true, true, true, true, true, true, true, true, true, false, true, false, false, false, false] rfl rfl (any_of HT_.out (by kernel_rfl)) (fun _ _ _ h => h) (Or.inl ⟨by rfl, ?_⟩) ?_ ?_
                              rotate_left
                              · intro w'
                                go_simp
                                with_reducible rfl
                              rotate_left
                              · simp only [Act.put, List.setIfInBounds_toArray, List.set_cons_zero, List.set_cons_succ, i64_w, i32_w]
                                rfl
                              refine take_ (i := 13) (N := some 48) (v := ?_) (a' := ?_) #[true, true, true, true, true, true, true, true, true, true, true, true, true, true, true, false, false, false, false] rfl rfl (take_ofW HT_.out HW_.out (by kernel_rfl)) (fun _ _ _ h => h) (Or.inl ⟨by rfl, ?_⟩) hHeld ?_ ?_
                              rotate_left
                              · rintro w' ⟨s0, s1, s2, s3, s4, s5, s6, s7, s8, s9, s10, s11, s12⟩
                                go_simp
                                with_reducible rfl
                              rotate_left
                              · simp only [Act.put, List.setIfInBounds_toArray, List.set_cons_zero, List.set_cons_succ, i64_w, i32_w]
                                rfl
                              refine take_ (i := 15) (N := some 50) (v := ?_) (a' := ?_) #[true, true, true, true, true, true, true, true, true, true, true, true, true, true, true, true, false, false, false] rfl rfl (take_ofW HT_.out HW_.out (by kernel_rfl)) (fun _ _ _ h => h) (Or.inl ⟨by rfl, ?_⟩) hHeld ?_ ?_
                              rotate_left
                              · rintro w' ⟨s0, s1, s2, s3, s4, s5, s6, s7, s8, s9, s10, s11, s12⟩
                                go_simp
                                with_reducible rfl
                              rotate_left
                              · simp only [Act.put, List.setIfInBounds_toArray, List.set_cons_zero, List.set_cons_succ, i64_w, i32_w]
                                rfl
                              refine pure_ (i := 16) (N := some 51) (v := ?_) (a' := ?_) #[true, true, true, true, true, true, true, true, true, true, true, true, true, true, true, true, true, false, false] rfl rfl (any_of HT_.out (by kernel_rfl)) (fun _ _ _ h => h) (Or.inl ⟨by rfl, ?_⟩) ?_ ?_
                              rotate_left
                              · intro w'
                                go_simp
                                with_reducible rfl
                              rotate_left
                              · simp only [Act.put, List.setIfInBounds_toArray, List.set_cons_zero, List.set_cons_succ, i64_w, i32_w]
                                rfl
                              refine pure_ (i := 17) (N := some 52) (v := ?_) (a' := ?_) #[true, true, true, true, true, true, true, true, true, true, true, true, true, true, true, true, true, true, false] rfl rfl (any_of HT_.out (by kernel_rfl)) (fun _ _ _ h => h) (Or.inl ⟨by rfl, ?_⟩) ?_ ?_
                              rotate_left
                              · intro w'
                                go_simp
                                with_reducible rfl
                              rotate_left
                              · simp only [Act.put, List.setIfInBounds_toArray, List.set_cons_zero, List.set_cons_succ, i64_w, i32_w]
                                rfl
                              refine pure_ (i := 18) (N := some 53) (v := ?_) (a' := ?_) #[true, true, true, true, true, true, true, true, true, true, true, true, true, true, true, true, true, true, true] rfl rfl (any_of HT_.out (by kernel_rfl)) (fun _ _ _ h => h) (Or.inl ⟨by rfl, ?_⟩) ?_ ?_
                              rotate_left
                              · intro w'
                                go_simp
                                with_reducible rfl
                              rotate_left
                              · simp only [Act.put, List.setIfInBounds_toArray, List.set_cons_zero, List.set_cons_succ, i64_w, i32_w]
                                rfl
                              refine done_ (done_of HT_.out (by kernel_rfl)) ?_
                              try go_wp2
                              go_roundg k2
                              case measure => have := HJ7.out; have := HK2.out; omega
                              case rel => exact ⟨(wrap64 (x30_2 + 1)), (by first | rfl | (simp; done) | (simp [*]; done)), H', ⟨by have := HJ7.out; have := HK2.out; omega⟩, ⟨by (with_reducible repeat (first | apply qa8 | apply qb8 | apply qc8)); exact BK237.out⟩, ⟨by repeat (first | (with_reducible first | exact HB.out | apply qd8 | apply qe8 | apply qf8 | refine qg8 ?_ GE237.out | refine qg8 ?_ GE240.out) | exact HB.out)⟩⟩
                          · rw [if_neg c28] at H
                            exact absurd H (by simp)
                        · rw [if_neg c27] at H
                          exact absurd H (by simp)
                      · rw [if_neg c25] at H
                        have c25b0 : decide (0 < x30_2) = false := decide_eq_false c25
                        clear c25
                        have H' := qh8 H
                        clear H
                        have p239 : 0 ≤ (x30_2 : Int) := of_decide_eq_true (by first | (with_reducible assumption) | assumption)
                        have q239 : x30_2 < (l0_6.length : Int) := of_decide_eq_true (by first | (with_reducible assumption) | assumption)
                        obtain ⟨ad239, e239, hx239_0, hx239_1, hx239_2⟩ := at_T137 HR0_6.out x30_2 p239 q239
                        cases e239
                        replace hx239_0 := (HB.out.cell (World.block_lt_of_cell? w _ hx239_0)).trans hx239_0
                        replace hx239_1 := (HB.out.cell (World.block_lt_of_cell? w _ hx239_1)).trans hx239_1
                        replace hx239_2 := (HB.out.cell (World.block_lt_of_cell? w _ hx239_2)).trans hx239_2
                        replace p239 := eq_true p239
                        replace q239 := eq_true q239
                        try go_wp2_with (first | ((with_reducible refine gate_dst (N := 4) rfl ?_); refine box_event ?hg (N := 4) ?hd (cs := #[.int .i64 0, .int .i64 0, .string (⟨#[]⟩ : ByteArray)]) (t := 137) ?hr ?_; (case hd => rfl); (case hg => rfl); (case hr => first | (go_simp; done) | (go_simp; rfl)); intro gb240 hg w42 hbox hb; have n0_ := qh8 (blk_below (g := gb237) (o := .cells #[.bool false, .int .i64 a0_1, .int .i64 a0_2, .int .i64 a0_3, .int .i64 a0_4, .string a0_5, .slice (some ad239) l0_6.length c0_6] 60 (0, 0)) (by (with_reducible repeat (first | apply qa8 | apply qb8 | apply qc8)); exact BK237.out) hb); have n1_ := qh8 (below_step (by repeat (first | (with_reducible first | exact HB.out | apply qd8 | apply qe8 | apply qf8 | refine qg8 ?_ GE237.out) | exact HB.out)) hb); have n2_ := qh8 (hbox); have n3_ := qh8 ((by rw [hg]; exact (below_size (by repeat (first | (with_reducible first | exact HB.out | apply qd8 | apply qe8 | apply qf8 | refine qg8 ?_ GE237.out) | exact HB.out))) : w.heap.size ≤ gb240)); have n4_ := qh8 ((by rw [hg]; exact (below_size (by repeat (first | (with_reducible first | exact HB.out | apply qd8 | apply qe8 | apply qf8 | refine qg8 ?_ GE237.out) | exact HB.out))) : w.heap.size ≤ gb240)); have n5_ := qh8 ((by rw [hg]; exact Nat.ne_of_lt (blk_lt (g := gb237) (o := .cells #[.bool false, .int .i64 a0_1, .int .i64 a0_2, .int .i64 a0_3, .int .i64 a0_4, .string a0_5, .slice (some ad239) l0_6.length c0_6] 60 (0, 0)) (by (with_reducible repeat (first | apply qa8 | apply qb8 | apply qc8)); exact BK237.out)) : gb237 ≠ gb240)); have n6_ := qh8 ((by rw [hg]; exact Nat.ne_of_gt (blk_lt (g := gb237) (o := .cells #[.bool false, .int .i64 a0_1, .int .i64 a0_2, .int .i64 a0_3, .int .i64 a0_4, .string a0_5, .slice (some ad239) l0_6.length c0_6] 60 (0, 0)) (by (with_reducible repeat (first | apply qa8 | apply qb8 | apply qc8)); exact BK237.out)) : gb240 ≠ gb237)); clear BK237; clear HB; have BK237 := n0_; have HB := n1_; have BK240 := n2_; have GW240 := n3_; have GE240 := n4_; have NB237_240 := n5_; have NB240_237 := n6_; clear n0_ n1_ n2_ n3_ n4_ n5_ n6_; clear hb hbox hg; have hnb43 := NB240_237.out; have hnc43 := NB237_240.out; have hcz44_0 : w42.cell? ⟨gb240, 0, none⟩ = some (.int .i64 0) := (blk_cell BK240.out 0).trans rfl; have hcz44_1 : w42.cell? ⟨gb240, 1, none⟩ = some (.int .i64 0) := (blk_cell BK240.out 1).trans rfl; have hcz44_2 : w42.cell? ⟨gb240, 2, none⟩ = some (.string (⟨#[]⟩ : ByteArray)) := (blk_cell BK240.out 2).trans rfl; have hfz44_0 := blk_frozen BK240.out 0; have hfz44_1 := blk_frozen BK240.out 1; have hfz44_2 := blk_frozen BK240.out 2))
                        have n0_ : Aside0 ((((w42.setCell ⟨gb240, 0, none⟩ (.int .i64 ((rd_T137 l0_6 x30_2).f0))).setCell ⟨gb240, 1, none⟩ (.int .i64 ((rd_T137 l0_6 x30_2).f1))).setCell ⟨gb240, 2, none⟩ (.string ((rd_T137 l0_6 x30_2).f2))).heap[gb237]? = some (.cells #[.bool false, .int .i64 a0_1, .int .i64 a0_2, .int .i64 a0_3, .int .i64 a0_4, .string a0_5, .slice (some ad239) l0_6.length c0_6] 60 (0, 0))) := ⟨by (with_reducible repeat (first | apply qa8 | apply qb8 | apply qc8)); refine blk_far ?_ NB237_240.out _; (with_reducible repeat (first | apply qa8 | apply qb8 | apply qc8)); refine blk_far ?_ NB237_240.out _; (with_reducible repeat (first | apply qa8 | apply qb8 | apply qc8)); refine blk_far ?_ NB237_240.out _; (with_reducible repeat (first | apply qa8 | apply qb8 | apply qc8)); exact BK237.out⟩
                        have n1_ : Aside0 ((((w42.setCell ⟨gb240, 0, none⟩ (.int .i64 ((rd_T137 l0_6 x30_2).f0))).setCell ⟨gb240, 1, none⟩ (.int .i64 ((rd_T137 l0_6 x30_2).f1))).setCell ⟨gb240, 2, none⟩ (.string ((rd_T137 l0_6 x30_2).f2))).heap[gb240]? = some (.cells #[.int .i64 ((rd_T137 l0_6 x30_2).f0), .int .i64 ((rd_T137 l0_6 x30_2).f1), .string ((rd_T137 l0_6 x30_2).f2)] 137 (0, 0))) := ⟨by (with_reducible repeat (first | apply qa8 | apply qb8 | apply qc8)); refine blk_put (cs := #[.int .i64 ((rd_T137 l0_6 x30_2).f0), .int .i64 ((rd_T137 l0_6 x30_2).f1), .string (⟨#[]⟩ : ByteArray)]) ?_ 2 _ rfl; (with_reducible repeat (first | apply qa8 | apply qb8 | apply qc8)); refine blk_put (cs := #[.int .i64 ((rd_T137 l0_6 x30_2).f0), .int .i64 0, .string (⟨#[]⟩ : ByteArray)]) ?_ 1 _ rfl; (with_reducible repeat (first | apply qa8 | apply qb8 | apply qc8)); refine blk_put (cs := #[.int .i64 0, .int .i64 0, .string (⟨#[]⟩ : ByteArray)]) ?_ 0 _ rfl; (with_reducible repeat (first | apply qa8 | apply qb8 | apply qc8)); exact BK240.out⟩
                        have n2_ : Aside0 (Below w.heap.size w (((w42.setCell ⟨gb240, 0, none⟩ (.int .i64 ((rd_T137 l0_6 x30_2).f0))).setCell ⟨gb240, 1, none⟩ (.int .i64 ((rd_T137 l0_6 x30_2).f1))).setCell ⟨gb240, 2, none⟩ (.string ((rd_T137 l0_6 x30_2).f2)))) := ⟨by repeat (first | (with_reducible first | exact HB.out | apply qd8 | apply qe8 | apply qf8 | refine qg8 ?_ GE237.out | refine qg8 ?_ GE240.out) | exact HB.out)⟩
                        (try clear BK237)
                        (try clear BK240)
                        (try clear HB)
                        generalize (((w42.setCell ⟨gb240, 0, none⟩ (.int .i64 ((rd_T137 l0_6 x30_2).f0))).setCell ⟨gb240, 1, none⟩ (.int .i64 ((rd_T137 l0_6 x30_2).f1))).setCell ⟨gb240, 2, none⟩ (.string ((rd_T137 l0_6 x30_2).f2))) = w45 at n0_ n1_ n2_ ⊢
                        have BK237 := n0_
                        have BK240 := n1_
                        have HB := n2_
                        clear n0_ n1_ n2_
                        have n0_ := qh8 (qb8 BK237.out)
                        have n1_ := qh8 (qb8 BK240.out)
                        have n2_ := qh8 (qf8 HB.out)
                        clear BK237
                        clear BK240
                        clear HB
                        have BK237 := n0_
                        have BK240 := n1_
                        have HB := n2_
                        clear n0_ n1_ n2_
                        refine start_ (n := 19) (S := fun w' => w'.cell? ⟨gb240, 0, none⟩ = some (.int .i64 ((rd_T137 l0_6 x30_2).f0)) ∧ w'.cell? ⟨gb240, 1, none⟩ = some (.int .i64 ((rd_T137 l0_6 x30_2).f1)) ∧ w'.cell? ⟨gb240, 2, none⟩ = some (.string ((rd_T137 l0_6 x30_2).f2))) (ds := []) #[false, false, false, false, false, false, false, false, false, false, false, false, false, false, false, false, false, false, false] (by kernel_rfl) rfl rfl ⟨(blk_cell BK240.out 0).trans rfl, (blk_cell BK240.out 1).trans rfl, (blk_cell BK240.out 2).trans rfl⟩ (fun hHeld => ?_); refine with_tabW impl_isBatch.tab8 impl_isBatch.bits8 (fun HT_ HW_ => ?_)
                        generalize w45.drew = w46 at BK237 BK240 HB hHeld ⊢
                        refine take_ (i := 0) (N := some 35) (v := ?_) (a' := ?_) #[true, false, false, false, false, false, false, false, false, false, false, false, false, false, false, false, false, false, false] rfl rfl (take_ofW HT_.out HW_.out (by kernel_rfl)) (fun _ _ _ h => h) (Or.inl ⟨by rfl, ?_⟩) hHeld ?_ ?_
                        rotate_left
                        · rintro w' ⟨s0, s1, s2⟩
                          go_simp
                          with_reducible rfl
                        rotate_left
                        · simp only [Act.put, List.setIfInBounds_toArray, List.set_cons_zero, List.set_cons_succ, i64_w, i32_w]
                          rfl
                        refine one_ (i := 1) (N := some 36) #[true, true, false, false, false, false, false, false, false, false, false, false, false, false, false, false, false, false, false] rfl rfl (one_of HT_.out (by kernel_rfl)) (by decide) (fun K hK => ?_)
                        refine goes_ Try.func117 (by kernel_rfl) rfl #[.agg #[.int .i64 ((rd_T137 l0_6 x30_2).f0), .int .i64 ((rd_T137 l0_6 x30_2).f1), .string ((rd_T137 l0_6 x30_2).f2)]] (by rfl) rfl rfl (by (try simp only [List.map_toArray, List.map_cons, List.map_nil]); first | done | rfl | (simp only [List.length_drop, List.length_take]; rfl)) ?_
                        with_reducible refine (impl_isReading.calls ((rd_T137 l0_6 x30_2).f0) ((rd_T137 l0_6 x30_2).f1) ((rd_T137 l0_6 x30_2).f2) true _ A23.out).mono ?_
                        rintro e w47 ⟨rfl, hb⟩
                        refine ⟨_, rfl, ?_⟩
                        have n0_ := qh8 (blk_below (g := gb237) (o := .cells #[.bool false, .int .i64 a0_1, .int .i64 a0_2, .int .i64 a0_3, .int .i64 a0_4, .string a0_5, .slice (some ad239) l0_6.length c0_6] 60 (0, 0)) (by (with_reducible repeat (first | apply qa8 | apply qb8 | apply qc8)); exact BK237.out) hb)
                        have n1_ := qh8 (blk_below (g := gb240) (o := .cells #[.int .i64 ((rd_T137 l0_6 x30_2).f0), .int .i64 ((rd_T137 l0_6 x30_2).f1), .string ((rd_T137 l0_6 x30_2).f2)] 137 (0, 0)) (by (with_reducible repeat (first | apply qa8 | apply qb8 | apply qc8)); exact BK240.out) hb)
                        have n2_ := qh8 (below_step (by repeat (first | (with_reducible first | exact HB.out | apply qd8 | apply qe8 | apply qf8 | refine qg8 ?_ GE237.out | refine qg8 ?_ GE240.out) | exact HB.out)) hb)
                        clear BK237
                        clear BK240
                        clear HB
                        have BK237 := n0_
                        have BK240 := n1_
                        have HB := n2_
                        clear n0_ n1_ n2_
                        (try clear hb)
                        (try clear hb2)
                        (try clear hk)
                        (try clear hi)
                        refine hK.out _ _ ⟨(blk_cell BK240.out 0).trans rfl, (blk_cell BK240.out 1).trans rfl, (blk_cell BK240.out 2).trans rfl⟩ (fun hHeld => ?_)
                        clear hK K
                        refine norm_ (a' := ?_) ?_ ?_
                        rotate_left
                        · show Act.put _ (some 36) _ = _
                          simp only [Act.put, List.setIfInBounds_toArray, List.set_cons_zero, List.set_cons_succ, i64_w, i32_w]
                          rfl
                        refine pure_ (i := 2) (N := some 37) (v := ?_) (a' := ?_) #[true, true, true, false, false, false, false, false, false, false, false, false, false, false, false, false, false, false, false] rfl rfl (any_of HT_.out (by kernel_rfl)) (fun _ _ _ h => h) (Or.inl ⟨by rfl, ?_⟩) ?_ ?_
                        rotate_left
                        · intro w'
                          go_simp
                          with_reducible rfl
                        rotate_left
                        · simp only [Act.put, List.setIfInBounds_toArray, List.set_cons_zero, List.set_cons_succ, i64_w, i32_w]
                          rfl
                        refine pure_ (i := 3) (N := some 38) (v := ?_) (a' := ?_) #[true, true, true, true, false, false, false, false, false, false, false, false, false, false, false, false, false, false, false] rfl rfl (any_of HT_.out (by kernel_rfl)) (fun _ _ _ h => h) (Or.inl ⟨by rfl, ?_⟩) ?_ ?_
                        rotate_left
                        · intro w'
                          go_simp
                          with_reducible rfl
                        rotate_left
                        · simp only [Act.put, List.setIfInBounds_toArray, List.set_cons_zero, List.set_cons_succ, i64_w, i32_w]
                          rfl
                        refine pure_ (i := 4) (N := some 39) (v := ?_) (a' := ?_) #[true, true, true, true, true, false, false, false, false, false, false, false, false, false, false, false, false, false, false] rfl rfl (any_of HT_.out (by kernel_rfl)) (fun _ _ _ h => h) (Or.inl ⟨by rfl, ?_⟩) ?_ ?_
                        rotate_left
                        · intro w'
                          go_simp
                          with_reducible rfl
                        rotate_left
                        · simp only [Act.put, List.setIfInBounds_toArray, List.set_cons_zero, List.set_cons_succ, i64_w, i32_w]
                          rfl
                        refine pure_ (i := 5) (N := some 40) (v := ?_) (a' := ?_) #[true, true, true, true, true, true, false, false, false, false, false, false, false, false, false, false, false, false, false] rfl rfl (any_of HT_.out (by kernel_rfl)) (fun _ _ _ h => h) (Or.inl ⟨by rfl, ?_⟩) ?_ ?_
                        rotate_left
                        · intro w'
                          go_simp
                          with_reducible rfl
                        rotate_left
                        · simp only [Act.put, List.setIfInBounds_toArray, List.set_cons_zero, List.set_cons_succ, i64_w, i32_w]
                          rfl
                        refine pure_ (i := 6) (N := some 41) (v := ?_) (a' := ?_) #[true, true, true, true, true, true, true, false, false, false, false, false, false, false, false, false, false, false, false] rfl rfl (any_of HT_.out (by kernel_rfl)) (fun _ _ _ h => h) (Or.inl ⟨by rfl, ?_⟩) ?_ ?_
                        rotate_left
                        · intro w'
                          go_simp
                          with_reducible rfl
                        rotate_left
                        · simp only [Act.put, List.setIfInBounds_toArray, List.set_cons_zero, List.set_cons_succ, i64_w, i32_w]
                          rfl
                        refine pure_ (i := 7) (N := some 42) (v := undef) (a' := ?_) #[true, true, true, true, true, true, true, true, false, false, false, false, false, false, false, false, false, false, false] rfl rfl (any_of HT_.out (by kernel_rfl)) (fun _ _ _ h => h) (Or.inr ⟨by rfl, rfl⟩) ?_ ?_
                        rotate_left
                        · simp only [Act.put, List.setIfInBounds_toArray, List.set_cons_zero, List.set_cons_succ, i64_w, i32_w]
                          rfl
                        refine pure_ (i := 8) (N := some 43) (v := undef) (a' := ?_) #[true, true, true, true, true, true, true, true, true, false, false, false, false, false, false, false, false, false, false] rfl rfl (any_of HT_.out (by kernel_rfl)) (fun _ _ _ h => h) (Or.inr ⟨by rfl, rfl⟩) ?_ ?_
                        rotate_left
                        · simp only [Act.put, List.setIfInBounds_toArray, List.set_cons_zero, List.set_cons_succ, i64_w, i32_w]
                          rfl
                        refine pure_ (i := 9) (N := some 44) (v := undef) (a' := ?_) #[true, true, true, true, true, true, true, true, true, true, false, false, false, false, false, false, false, false, false] rfl rfl (any_of HT_.out (by kernel_rfl)) (fun _ _ _ h => h) (Or.inr ⟨by rfl, rfl⟩) ?_ ?_
                        rotate_left
                        · simp only [Act.put, List.setIfInBounds_toArray, List.set_cons_zero, List.set_cons_succ, i64_w, i32_w]
                          rfl
                        refine pure_ (i := 10) (N := some 45) (v := undef) (a' := ?_) #[true, true, true, true, true, true, true, true, true, true, true, false, false, false, false, false, false, false, false] rfl rfl (any_of HT_.out (by kernel_rfl)) (fun _ _ _ h => h) (Or.inr ⟨by rfl, rfl⟩) ?_ ?_
                        rotate_left
                        · simp only [Act.put, List.setIfInBounds_toArray, List.set_cons_zero, List.set_cons_succ, i64_w, i32_w]
                          rfl
                        refine pure_ (i := 11) (N := some 46) (v := undef) (a' := ?_) #[true, true, true, true, true, true, true, true, true, true, true, true, false, false, false, false, false, false, false] rfl rfl (any_of HT_.out (by kernel_rfl)) (fun _ _ _ h => h) (Or.inr ⟨by rfl, rfl⟩) ?_ ?_
                        rotate_left
                        · simp only [Act.put, List.setIfInBounds_toArray, List.set_cons_zero, List.set_cons_succ, i64_w, i32_w]
                          rfl
                        refine pure_ (i := 12) (N := some 47) (v := undef) (a' := ?_) #[true, true, true, true, true, true, true, true, true, true, true, true, true, false, false, false, false, false, false] rfl rfl (any_of HT_.out (by kernel_rfl)) (fun _ _ _ h => h) (Or.inr ⟨by rfl, rfl⟩) ?_ ?_
                        rotate_left
                        · simp only [Act.put, List.setIfInBounds_toArray, List.set_cons_zero, List.set_cons_succ, i64_w, i32_w]
                          rfl
                        refine pure_ (i := 13) (N := some 48) (v := undef) (a' := ?_) #[true, true, true, true, true, true, true, true, true, true, true, true, true, true, false, false, false, false, false] rfl rfl (any_of HT_.out (by kernel_rfl)) (fun _ _ _ h => h) (Or.inr ⟨by rfl, rfl⟩) ?_ ?_
                        rotate_left
                        · simp only [Act.put, List.setIfInBounds_toArray, List.set_cons_zero, List.set_cons_succ, i64_w, i32_w]
                          rfl
                        refine pure_ (i := 14) (N := some 49) (v := undef) (a' := ?_) #[true, true, true, true, true, true, true, true, true, true, true, true, true, true, true, false, false, false, false] rfl rfl (any_of HT_.out (by kernel_rfl)) (fun _ _ _ h => h) (Or.inr ⟨by rfl, rfl⟩) ?_ ?_
                        rotate_left
                        · simp only [Act.put, List.setIfInBounds_toArray, List.set_cons_zero, List.set_cons_succ, i64_w, i32_w]
                          rfl
                        refine pure_ (i := 15) (N := some 50) (v := undef) (a' := ?_) #[true, true, true, true, true, true, true, true, true, true, true, true, true, true, true, true, false, false, false] rfl rfl (any_of HT_.out (by kernel_rfl)) (fun _ _ _ h => h) (Or.inr ⟨by rfl, rfl⟩) ?_ ?_
                        rotate_left
                        · simp only [Act.put, List.setIfInBounds_toArray, List.set_cons_zero, List.set_cons_succ, i64_w, i32_w]
                          rfl
                        refine pure_ (i := 16) (N := some 51) (v := undef) (a' := ?_) #[true, true, true, true, true, true, true, true, true, true, true, true, true, true, true, true, true, false, false] rfl rfl (any_of HT_.out (by kernel_rfl)) (fun _ _ _ h => h) (Or.inr ⟨by rfl, rfl⟩) ?_ ?_
                        rotate_left
                        · simp only [Act.put, List.setIfInBounds_toArray, List.set_cons_zero, List.set_cons_succ, i64_w, i32_w]
                          rfl
                        refine pure_ (i := 17) (N := some 52) (v := ?_) (a' := ?_) #[true, true, true, true, true, true, true, true, true, true, true, true, true, true, true, true, true, true, false] rfl rfl (any_of HT_.out (by kernel_rfl)) (fun _ _ _ h => h) (Or.inl ⟨by rfl, ?_⟩) ?_ ?_
                        rotate_left
                        · intro w'
                          go_simp
                          with_reducible rfl
                        rotate_left
                        · simp only [Act.put, List.setIfInBounds_toArray, List.set_cons_zero, List.set_cons_succ, i64_w, i32_w]
                          rfl
                        refine pure_ (i := 18) (N := some 53) (v := ?_) (a' := ?_) #[true, true, true, true, true, true, true, true, true, true, true, true, true, true, true, true, true, true, true] rfl rfl (any_of HT_.out (by kernel_rfl)) (fun _ _ _ h => h) (Or.inl ⟨by rfl, ?_⟩) ?_ ?_
                        rotate_left
                        · intro w'
                          go_simp
                          with_reducible rfl
                        rotate_left
                        · simp only [Act.put, List.setIfInBounds_toArray, List.set_cons_zero, List.set_cons_succ, i64_w, i32_w]
                          rfl
                        refine done_ (done_of HT_.out (by kernel_rfl)) ?_
                        try go_wp2
                        go_roundg k2
                        case measure => have := HJ7.out; have := HK2.out; omega
                        case rel => exact ⟨(wrap64 (x30_2 + 1)), (by first | rfl | (simp; done) | (simp [*]; done)), H', ⟨by have := HJ7.out; have := HK2.out; omega⟩, ⟨by (with_reducible repeat (first | apply qa8 | apply qb8 | apply qc8)); exact BK237.out⟩, ⟨by repeat (first | (with_reducible first | exact HB.out | apply qd8 | apply qe8 | apply qf8 | refine qg8 ?_ GE237.out | refine qg8 ?_ GE240.out) | exact HB.out)⟩⟩
                    · replace c24 := Bool.eq_false_iff.mpr c24
                      subst c24
                      have H1 : (some false) = some r := by rw [if_neg (show ¬ (false = true) by decide)] at H; exact H
                      clear H
                      have H := H1
                      clear H1
                      obtain rfl := Option.some.inj H
                      have p239 : 0 ≤ (x30_2 : Int) := of_decide_eq_true (by first | (with_reducible assumption) | assumption)
                      have q239 : x30_2 < (l0_6.length : Int) := of_decide_eq_true (by first | (with_reducible assumption) | assumption)
                      obtain ⟨ad239, e239, hx239_0, hx239_1, hx239_2⟩ := at_T137 HR0_6.out x30_2 p239 q239
                      cases e239
                      replace hx239_0 := (HB.out.cell (World.block_lt_of_cell? w _ hx239_0)).trans hx239_0
                      replace hx239_1 := (HB.out.cell (World.block_lt_of_cell? w _ hx239_1)).trans hx239_1
                      replace hx239_2 := (HB.out.cell (World.block_lt_of_cell? w _ hx239_2)).trans hx239_2
                      replace p239 := eq_true p239
                      replace q239 := eq_true q239
                      try go_wp2_with (first | ((with_reducible refine gate_dst (N := 4) rfl ?_); refine box_event ?hg (N := 4) ?hd (cs := #[.int .i64 0, .int .i64 0, .string (⟨#[]⟩ : ByteArray)]) (t := 137) ?hr ?_; (case hd => rfl); (case hg => rfl); (case hr => first | (go_simp; done) | (go_simp; rfl)); intro gb240 hg w48 hbox hb; have n0_ := qh8 (blk_below (g := gb237) (o := .cells #[.bool false, .int .i64 a0_1, .int .i64 a0_2, .int .i64 a0_3, .int .i64 a0_4, .string a0_5, .slice (some ad239) l0_6.length c0_6] 60 (0, 0)) (by (with_reducible repeat (first | apply qa8 | apply qb8 | apply qc8)); exact BK237.out) hb); have n1_ := qh8 (below_step (by repeat (first | (with_reducible first | exact HB.out | apply qd8 | apply qe8 | apply qf8 | refine qg8 ?_ GE237.out) | exact HB.out)) hb); have n2_ := qh8 (hbox); have n3_ := qh8 ((by rw [hg]; exact (below_size (by repeat (first | (with_reducible first | exact HB.out | apply qd8 | apply qe8 | apply qf8 | refine qg8 ?_ GE237.out) | exact HB.out))) : w.heap.size ≤ gb240)); have n4_ := qh8 ((by rw [hg]; exact (below_size (by repeat (first | (with_reducible first | exact HB.out | apply qd8 | apply qe8 | apply qf8 | refine qg8 ?_ GE237.out) | exact HB.out))) : w.heap.size ≤ gb240)); have n5_ := qh8 ((by rw [hg]; exact Nat.ne_of_lt (blk_lt (g := gb237) (o := .cells #[.bool false, .int .i64 a0_1, .int .i64 a0_2, .int .i64 a0_3, .int .i64 a0_4, .string a0_5, .slice (some ad239) l0_6.length c0_6] 60 (0, 0)) (by (with_reducible repeat (first | apply qa8 | apply qb8 | apply qc8)); exact BK237.out)) : gb237 ≠ gb240)); have n6_ := qh8 ((by rw [hg]; exact Nat.ne_of_gt (blk_lt (g := gb237) (o := .cells #[.bool false, .int .i64 a0_1, .int .i64 a0_2, .int .i64 a0_3, .int .i64 a0_4, .string a0_5, .slice (some ad239) l0_6.length c0_6] 60 (0, 0)) (by (with_reducible repeat (first | apply qa8 | apply qb8 | apply qc8)); exact BK237.out)) : gb240 ≠ gb237)); clear BK237; clear HB; have BK237 := n0_; have HB := n1_; have BK240 := n2_; have GW240 := n3_; have GE240 := n4_; have NB237_240 := n5_; have NB240_237 := n6_; clear n0_ n1_ n2_ n3_ n4_ n5_ n6_; clear hb hbox hg; have hnb49 := NB240_237.out; have hnc49 := NB237_240.out; have hcz50_0 : w48.cell? ⟨gb240, 0, none⟩ = some (.int .i64 0) := (blk_cell BK240.out 0).trans rfl; have hcz50_1 : w48.cell? ⟨gb240, 1, none⟩ = some (.int .i64 0) := (blk_cell BK240.out 1).trans rfl; have hcz50_2 : w48.cell? ⟨gb240, 2, none⟩ = some (.string (⟨#[]⟩ : ByteArray)) := (blk_cell BK240.out 2).trans rfl; have hfz50_0 := blk_frozen BK240.out 0; have hfz50_1 := blk_frozen BK240.out 1; have hfz50_2 := blk_frozen BK240.out 2))
                      have n0_ : Aside0 ((((w48.setCell ⟨gb240, 0, none⟩ (.int .i64 ((rd_T137 l0_6 x30_2).f0))).setCell ⟨gb240, 1, none⟩ (.int .i64 ((rd_T137 l0_6 x30_2).f1))).setCell ⟨gb240, 2, none⟩ (.string ((rd_T137 l0_6 x30_2).f2))).heap[gb237]? = some (.cells #[.bool false, .int .i64 a0_1, .int .i64 a0_2, .int .i64 a0_3, .int .i64 a0_4, .string a0_5, .slice (some ad239) l0_6.length c0_6] 60 (0, 0))) := ⟨by (with_reducible repeat (first | apply qa8 | apply qb8 | apply qc8)); refine blk_far ?_ NB237_240.out _; (with_reducible repeat (first | apply qa8 | apply qb8 | apply qc8)); refine blk_far ?_ NB237_240.out _; (with_reducible repeat (first | apply qa8 | apply qb8 | apply qc8)); refine blk_far ?_ NB237_240.out _; (with_reducible repeat (first | apply qa8 | apply qb8 | apply qc8)); exact BK237.out⟩
                      have n1_ : Aside0 ((((w48.setCell ⟨gb240, 0, none⟩ (.int .i64 ((rd_T137 l0_6 x30_2).f0))).setCell ⟨gb240, 1, none⟩ (.int .i64 ((rd_T137 l0_6 x30_2).f1))).setCell ⟨gb240, 2, none⟩ (.string ((rd_T137 l0_6 x30_2).f2))).heap[gb240]? = some (.cells #[.int .i64 ((rd_T137 l0_6 x30_2).f0), .int .i64 ((rd_T137 l0_6 x30_2).f1), .string ((rd_T137 l0_6 x30_2).f2)] 137 (0, 0))) := ⟨by (with_reducible repeat (first | apply qa8 | apply qb8 | apply qc8)); refine blk_put (cs := #[.int .i64 ((rd_T137 l0_6 x30_2).f0), .int .i64 ((rd_T137 l0_6 x30_2).f1), .string (⟨#[]⟩ : ByteArray)]) ?_ 2 _ rfl; (with_reducible repeat (first | apply qa8 | apply qb8 | apply qc8)); refine blk_put (cs := #[.int .i64 ((rd_T137 l0_6 x30_2).f0), .int .i64 0, .string (⟨#[]⟩ : ByteArray)]) ?_ 1 _ rfl; (with_reducible repeat (first | apply qa8 | apply qb8 | apply qc8)); refine blk_put (cs := #[.int .i64 0, .int .i64 0, .string (⟨#[]⟩ : ByteArray)]) ?_ 0 _ rfl; (with_reducible repeat (first | apply qa8 | apply qb8 | apply qc8)); exact BK240.out⟩
                      have n2_ : Aside0 (Below w.heap.size w (((w48.setCell ⟨gb240, 0, none⟩ (.int .i64 ((rd_T137 l0_6 x30_2).f0))).setCell ⟨gb240, 1, none⟩ (.int .i64 ((rd_T137 l0_6 x30_2).f1))).setCell ⟨gb240, 2, none⟩ (.string ((rd_T137 l0_6 x30_2).f2)))) := ⟨by repeat (first | (with_reducible first | exact HB.out | apply qd8 | apply qe8 | apply qf8 | refine qg8 ?_ GE237.out | refine qg8 ?_ GE240.out) | exact HB.out)⟩
                      (try clear BK237)
                      (try clear BK240)
                      (try clear HB)
                      generalize (((w48.setCell ⟨gb240, 0, none⟩ (.int .i64 ((rd_T137 l0_6 x30_2).f0))).setCell ⟨gb240, 1, none⟩ (.int .i64 ((rd_T137 l0_6 x30_2).f1))).setCell ⟨gb240, 2, none⟩ (.string ((rd_T137 l0_6 x30_2).f2))) = w51 at n0_ n1_ n2_ ⊢
                      have BK237 := n0_
                      have BK240 := n1_
                      have HB := n2_
                      clear n0_ n1_ n2_
                      have n0_ := qh8 (qb8 BK237.out)
                      have n1_ := qh8 (qb8 BK240.out)
                      have n2_ := qh8 (qf8 HB.out)
                      clear BK237
                      clear BK240
                      clear HB
                      have BK237 := n0_
                      have BK240 := n1_
                      have HB := n2_
                      clear n0_ n1_ n2_
                      refine start_ (n := 19) (S := fun w' => w'.cell? ⟨gb240, 0, none⟩ = some (.int .i64 ((rd_T137 l0_6 x30_2).f0)) ∧ w'.cell? ⟨gb240, 1, none⟩ = some (.int .i64 ((rd_T137 l0_6 x30_2).f1)) ∧ w'.cell? ⟨gb240, 2, none⟩ = some (.string ((rd_T137 l0_6 x30_2).f2))) (ds := []) #[false, false, false, false, false, false, false, false, false, false, false, false, false, false, false, false, false, false, false] (by kernel_rfl) rfl rfl ⟨(blk_cell BK240.out 0).trans rfl, (blk_cell BK240.out 1).trans rfl, (blk_cell BK240.out 2).trans rfl⟩ (fun hHeld => ?_); refine with_tabW impl_isBatch.tab8 impl_isBatch.bits8 (fun HT_ HW_ => ?_)
                      generalize w51.drew = w52 at BK237 BK240 HB hHeld ⊢
                      refine take_ (i := 0) (N := some 35) (v := ?_) (a' := ?_) #[true, false, false, false, false, false, false, false, false, false, false, false, false, false, false, false, false, false, false] rfl rfl (take_ofW HT_.out HW_.out (by kernel_rfl)) (fun _ _ _ h => h) (Or.inl ⟨by rfl, ?_⟩) hHeld ?_ ?_
                      rotate_left
                      · rintro w' ⟨s0, s1, s2⟩
                        go_simp
                        with_reducible rfl
                      rotate_left
                      · simp only [Act.put, List.setIfInBounds_toArray, List.set_cons_zero, List.set_cons_succ, i64_w, i32_w]
                        rfl
                      refine one_ (i := 1) (N := some 36) #[true, true, false, false, false, false, false, false, false, false, false, false, false, false, false, false, false, false, false] rfl rfl (one_of HT_.out (by kernel_rfl)) (by decide) (fun K hK => ?_)
                      refine goes_ Try.func117 (by kernel_rfl) rfl #[.agg #[.int .i64 ((rd_T137 l0_6 x30_2).f0), .int .i64 ((rd_T137 l0_6 x30_2).f1), .string ((rd_T137 l0_6 x30_2).f2)]] (by rfl) rfl rfl (by (try simp only [List.map_toArray, List.map_cons, List.map_nil]); first | done | rfl | (simp only [List.length_drop, List.length_take]; rfl)) ?_
                      with_reducible refine (impl_isReading.calls ((rd_T137 l0_6 x30_2).f0) ((rd_T137 l0_6 x30_2).f1) ((rd_T137 l0_6 x30_2).f2) false _ A23.out).mono ?_
                      rintro e w53 ⟨rfl, hb⟩
                      refine ⟨_, rfl, ?_⟩
                      have n0_ := qh8 (blk_below (g := gb237) (o := .cells #[.bool false, .int .i64 a0_1, .int .i64 a0_2, .int .i64 a0_3, .int .i64 a0_4, .string a0_5, .slice (some ad239) l0_6.length c0_6] 60 (0, 0)) (by (with_reducible repeat (first | apply qa8 | apply qb8 | apply qc8)); exact BK237.out) hb)
                      have n1_ := qh8 (blk_below (g := gb240) (o := .cells #[.int .i64 ((rd_T137 l0_6 x30_2).f0), .int .i64 ((rd_T137 l0_6 x30_2).f1), .string ((rd_T137 l0_6 x30_2).f2)] 137 (0, 0)) (by (with_reducible repeat (first | apply qa8 | apply qb8 | apply qc8)); exact BK240.out) hb)
                      have n2_ := qh8 (below_step (by repeat (first | (with_reducible first | exact HB.out | apply qd8 | apply qe8 | apply qf8 | refine qg8 ?_ GE237.out | refine qg8 ?_ GE240.out) | exact HB.out)) hb)
                      clear BK237
                      clear BK240
                      clear HB
                      have BK237 := n0_
                      have BK240 := n1_
                      have HB := n2_
                      clear n0_ n1_ n2_
                      (try clear hb)
                      (try clear hb2)
                      (try clear hk)
                      (try clear hi)
                      refine hK.out _ _ ⟨(blk_cell BK240.out 0).trans rfl, (blk_cell BK240.out 1).trans rfl, (blk_cell BK240.out 2).trans rfl⟩ (fun hHeld => ?_)
                      clear hK K
                      refine norm_ (a' := ?_) ?_ ?_
                      rotate_left
                      · show Act.put _ (some 36) _ = _
                        simp only [Act.put, List.setIfInBounds_toArray, List.set_cons_zero, List.set_cons_succ, i64_w, i32_w]
                        rfl
                      refine pure_ (i := 2) (N := some 37) (v := ?_) (a' := ?_) #[true, true, true, false, false, false, false, false, false, false, false, false, false, false, false, false, false, false, false] rfl rfl (any_of HT_.out (by kernel_rfl)) (fun _ _ _ h => h) (Or.inl ⟨by rfl, ?_⟩) ?_ ?_
                      rotate_left
                      · intro w'
                        go_simp
                        with_reducible rfl
                      rotate_left
                      · simp only [Act.put, List.setIfInBounds_toArray, List.set_cons_zero, List.set_cons_succ, i64_w, i32_w]
                        rfl
                      refine pure_ (i := 3) (N := some 38) (v := ?_) (a' := ?_) #[true, true, true, true, false, false, false, false, false, false, false, false, false, false, false, false, false, false, false] rfl rfl (any_of HT_.out (by kernel_rfl)) (fun _ _ _ h => h) (Or.inl ⟨by rfl, ?_⟩) ?_ ?_
                      rotate_left
                      · intro w'
                        go_simp
                        with_reducible rfl
                      rotate_left
                      · simp only [Act.put, List.setIfInBounds_toArray, List.set_cons_zero, List.set_cons_succ, i64_w, i32_w]
                        rfl
                      refine pure_ (i := 4) (N := some 39) (v := undef) (a' := ?_) #[true, true, true, true, true, false, false, false, false, false, false, false, false, false, false, false, false, false, false] rfl rfl (any_of HT_.out (by kernel_rfl)) (fun _ _ _ h => h) (Or.inr ⟨by rfl, rfl⟩) ?_ ?_
                      rotate_left
                      · simp only [Act.put, List.setIfInBounds_toArray, List.set_cons_zero, List.set_cons_succ, i64_w, i32_w]
                        rfl
                      refine pure_ (i := 5) (N := some 40) (v := undef) (a' := ?_) #[true, true, true, true, true, true, false, false, false, false, false, false, false, false, false, false, false, false, false] rfl rfl (any_of HT_.out (by kernel_rfl)) (fun _ _ _ h => h) (Or.inr ⟨by rfl, rfl⟩) ?_ ?_
                      rotate_left
                      · simp only [Act.put, List.setIfInBounds_toArray, List.set_cons_zero, List.set_cons_succ, i64_w, i32_w]
                        rfl
                      refine pure_ (i := 6) (N := some 41) (v := undef) (a' := ?_) #[true, true, true, true, true, true, true, false, false, false, false, false, false, false, false, false, false, false, false] rfl rfl (any_of HT_.out (by kernel_rfl)) (fun _ _ _ h => h) (Or.inr ⟨by rfl, rfl⟩) ?_ ?_
                      rotate_left
                      · simp only [Act.put, List.setIfInBounds_toArray, List.set_cons_zero, List.set_cons_succ, i64_w, i32_w]
                        rfl
                      refine pure_ (i := 7) (N := some 42) (v := undef) (a' := ?_) #[true, true, true, true, true, true, true, true, false, false, false, false, false, false, false, false, false, false, false] rfl rfl (any_of HT_.out (by kernel_rfl)) (fun _ _ _ h => h) (Or.inr ⟨by rfl, rfl⟩) ?_ ?_
                      rotate_left
                      · simp only [Act.put, List.setIfInBounds_toArray, List.set_cons_zero, List.set_cons_succ, i64_w, i32_w]
                        rfl
                      refine pure_ (i := 8) (N := some 43) (v := undef) (a' := ?_) #[true, true, true, true, true, true, true, true, true, false, false, false, false, false, false, false, false, false, false] rfl rfl (any_of HT_.out (by kernel_rfl)) (fun _ _ _ h => h) (Or.inr ⟨by rfl, rfl⟩) ?_ ?_
                      rotate_left
                      · simp only [Act.put, List.setIfInBounds_toArray, List.set_cons_zero, List.set_cons_succ, i64_w, i32_w]
                        rfl
                      refine pure_ (i := 9) (N := some 44) (v := undef) (a' := ?_) #[true, true, true, true, true, true, true, true, true, true, false, false, false, false, false, false, false, false, false] rfl rfl (any_of HT_.out (by kernel_rfl)) (fun _ _ _ h => h) (Or.inr ⟨by rfl, rfl⟩) ?_ ?_
                      rotate_left
                      · simp only [Act.put, List.setIfInBounds_toArray, List.set_cons_zero, List.set_cons_succ, i64_w, i32_w]
                        rfl
                      refine pure_ (i := 10) (N := some 45) (v := undef) (a' := ?_) #[true, true, true, true, true, true, true, true, true, true, true, false, false, false, false, false, false, false, false] rfl rfl (any_of HT_.out (by kernel_rfl)) (fun _ _ _ h => h) (Or.inr ⟨by rfl, rfl⟩) ?_ ?_
                      rotate_left
                      · simp only [Act.put, List.setIfInBounds_toArray, List.set_cons_zero, List.set_cons_succ, i64_w, i32_w]
                        rfl
                      refine pure_ (i := 11) (N := some 46) (v := undef) (a' := ?_) #[true, true, true, true, true, true, true, true, true, true, true, true, false, false, false, false, false, false, false] rfl rfl (any_of HT_.out (by kernel_rfl)) (fun _ _ _ h => h) (Or.inr ⟨by rfl, rfl⟩) ?_ ?_
                      rotate_left
                      · simp only [Act.put, List.setIfInBounds_toArray, List.set_cons_zero, List.set_cons_succ, i64_w, i32_w]
                        rfl
                      refine pure_ (i := 12) (N := some 47) (v := undef) (a' := ?_) #[true, true, true, true, true, true, true, true, true, true, true, true, true, false, false, false, false, false, false] rfl rfl (any_of HT_.out (by kernel_rfl)) (fun _ _ _ h => h) (Or.inr ⟨by rfl, rfl⟩) ?_ ?_
                      rotate_left
                      · simp only [Act.put, List.setIfInBounds_toArray, List.set_cons_zero, List.set_cons_succ, i64_w, i32_w]
                        rfl
                      refine pure_ (i := 13) (N := some 48) (v := undef) (a' := ?_) #[true, true, true, true, true, true, true, true, true, true, true, true, true, true, false, false, false, false, false] rfl rfl (any_of HT_.out (by kernel_rfl)) (fun _ _ _ h => h) (Or.inr ⟨by rfl, rfl⟩) ?_ ?_
                      rotate_left
                      · simp only [Act.put, List.setIfInBounds_toArray, List.set_cons_zero, List.set_cons_succ, i64_w, i32_w]
                        rfl
                      refine pure_ (i := 14) (N := some 49) (v := undef) (a' := ?_) #[true, true, true, true, true, true, true, true, true, true, true, true, true, true, true, false, false, false, false] rfl rfl (any_of HT_.out (by kernel_rfl)) (fun _ _ _ h => h) (Or.inr ⟨by rfl, rfl⟩) ?_ ?_
                      rotate_left
                      · simp only [Act.put, List.setIfInBounds_toArray, List.set_cons_zero, List.set_cons_succ, i64_w, i32_w]
                        rfl
                      refine pure_ (i := 15) (N := some 50) (v := undef) (a' := ?_) #[true, true, true, true, true, true, true, true, true, true, true, true, true, true, true, true, false, false, false] rfl rfl (any_of HT_.out (by kernel_rfl)) (fun _ _ _ h => h) (Or.inr ⟨by rfl, rfl⟩) ?_ ?_
                      rotate_left
                      · simp only [Act.put, List.setIfInBounds_toArray, List.set_cons_zero, List.set_cons_succ, i64_w, i32_w]
                        rfl
                      refine pure_ (i := 16) (N := some 51) (v := undef) (a' := ?_) #[true, true, true, true, true, true, true, true, true, true, true, true, true, true, true, true, true, false, false] rfl rfl (any_of HT_.out (by kernel_rfl)) (fun _ _ _ h => h) (Or.inr ⟨by rfl, rfl⟩) ?_ ?_
                      rotate_left
                      · simp only [Act.put, List.setIfInBounds_toArray, List.set_cons_zero, List.set_cons_succ, i64_w, i32_w]
                        rfl
                      refine pure_ (i := 17) (N := some 52) (v := undef) (a' := ?_) #[true, true, true, true, true, true, true, true, true, true, true, true, true, true, true, true, true, true, false] rfl rfl (any_of HT_.out (by kernel_rfl)) (fun _ _ _ h => h) (Or.inr ⟨by rfl, rfl⟩) ?_ ?_
                      rotate_left
                      · simp only [Act.put, List.setIfInBounds_toArray, List.set_cons_zero, List.set_cons_succ, i64_w, i32_w]
                        rfl
                      refine pure_ (i := 18) (N := some 53) (v := ?_) (a' := ?_) #[true, true, true, true, true, true, true, true, true, true, true, true, true, true, true, true, true, true, true] rfl rfl (any_of HT_.out (by kernel_rfl)) (fun _ _ _ h => h) (Or.inl ⟨by rfl, ?_⟩) ?_ ?_
                      rotate_left
                      · intro w'
                        go_simp
                        with_reducible rfl
                      rotate_left
                      · simp only [Act.put, List.setIfInBounds_toArray, List.set_cons_zero, List.set_cons_succ, i64_w, i32_w]
                        rfl
                      refine done_ (done_of HT_.out (by kernel_rfl)) ?_
                      try go_wp2
                      go_ret
                      exact ⟨by first | rfl | (simp [errW_none, errW_some] <;> rfl) | (simp [*, errW_none, errW_some] <;> rfl), by repeat (first | (with_reducible first | exact HB.out | apply qd8 | apply qe8 | apply qf8 | refine qg8 ?_ GE237.out | refine qg8 ?_ GE240.out) | exact HB.out)⟩
                  · rw [if_neg c22] at H
                    exact absurd H (by simp)
                · rw [if_neg c21] at H
                  exact absurd H (by simp)
              · rw [if_neg c20] at H
                have c20b0 : decide (x30_2 < (l0_6.length : Int)) = false := decide_eq_false c20
                clear c20
                obtain rfl := Option.some.inj H
                go_wp2
                go_ret
                exact ⟨by first | rfl | (simp [errW_none, errW_some] <;> rfl) | (simp [*, errW_none, errW_some] <;> rfl), by repeat (first | (with_reducible first | exact HB.out | apply qd8 | apply qe8 | apply qf8 | refine qg8 ?_ GE237.out) | exact HB.out)⟩

end Go.Proofs.Ytgekkfgljjbikaa.PFnExactBatchBytes
