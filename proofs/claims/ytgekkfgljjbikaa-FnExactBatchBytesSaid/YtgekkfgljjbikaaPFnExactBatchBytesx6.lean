-- laid by this session's program myprint.py over the kit's printer
-- aliased
import Derived.Test.YtgekkfgljjbikaaPFnExactBatchBytesx0
import Derived.Test.YtgekkfgljjbikaaPFnExactBatchBytesx4
import Derived.Test.YtgekkfgljjbikaaPFnExactBatchBytesx5
namespace Go.Proofs.Ytgekkfgljjbikaa.PFnExactBatchBytes
open Go.RowKit Go.Proofs.YtgekkfgljjbikaaV.PrintWords Go.Proofs.YtgekkfgljjbikaaV.PrintLast Go.Proofs.YtgekkfgljjbikaaV.PrintMore
attribute [local go_sem] max2_int min2_int max_two min_two max_three min_three max_four min_four u8_wm u32_wm   -- for this text's walks alone
set_option linter.unusedVariables false
set_option linter.unusedSimpArgs false

/-! ### spec_l02Batch: function 84 -/
theorem qa6 : type_of% @blk_drewN := @blk_drewN
theorem qb6 : type_of% @blk_drew := @blk_drew
theorem qc6 : type_of% @blk_alloc := @blk_alloc
theorem qd6 : type_of% @Kd.R_alloc := @Kd.R_alloc
theorem qe6 : type_of% @Kd.R_drewN := @Kd.R_drewN
theorem qf6 : type_of% @below_alloc := @below_alloc
theorem qg6 : type_of% @pw_below_drewN := @pw_below_drewN
theorem qh6 : type_of% @below_drew1 := @below_drew1
theorem qi6 : type_of% @below_set := @below_set
theorem qj6 : type_of% @Aside0.mk := @Aside0.mk
theorem qk6 : type_of% @below_step := @below_step
theorem ql6 : type_of% @below_size := @below_size
def spec_l02Batch.l0 : Nat → List Int → Int → Bool → Int → Int → Int → Int → ByteArray → List (S137) → Option (List Int)
  | 0, _, _, _, _, _, _, _, _, _ => none
  | k + 1, x3, x4, x165000, x165001, x165002, x165003, x165004, x165005, x165006 => if x4 < (x165006.length : Int) then (if 0 ≤ x4 then (if x3.length < 140737488355328 then ((some (x3 ++ [((rd_T137 x165006 x4).f0) % 256] : List Int)).bind fun y172 => ((spec_l02Number.f k ((rd_T137 x165006 x4).f1) 4).bind fun t176 => (if y172.length + t176.length < 140737488355328 then ((some (y172 ++ t176 : List Int)).bind fun y179 => (if y179.length + ((rd_T137 x165006 x4).f2).size < 140737488355328 then (spec_l02Batch.l0 k (y179 ++ bytesOf ((rd_T137 x165006 x4).f2)) (wrap64 (x4 + 1)) x165000 x165001 x165002 x165003 x165004 x165005 x165006) else (none))) else (none)))) else (none)) else (none)) else ((spec_l02Request.f k x165001 x165002 x165003 x165004 x165005).bind fun t186 => (if x3.length + t186.length < 140737488355328 then (some (x3 ++ t186)) else (none)))
def spec_l02Batch.f (k : Nat) (a0_0 : Bool) (a0_1 : Int) (a0_2 : Int) (a0_3 : Int) (a0_4 : Int) (a0_5 : ByteArray) (l0_6 : List (S137)) : Option (List Int) := if a0_0 = true then (some (([0] : List Int))) else (spec_l02Batch.l0 k (([(wrap64 (1 + (l0_6.length : Int))) % 256] : List Int)) 0 a0_0 a0_1 a0_2 a0_3 a0_4 a0_5 l0_6)
theorem spec_l02Batch.mono_l : ∀ k, (∀ y0 y1 y2 y3 y4 y5 y6 y7 y8, LeO (spec_l02Batch.l0 k y0 y1 y2 y3 y4 y5 y6 y7 y8) (spec_l02Batch.l0 (k + 1) y0 y1 y2 y3 y4 y5 y6 y7 y8))
  | 0 => fun _ _ _ _ _ _ _ _ _ r h => by simp [spec_l02Batch.l0] at h
  | k + 1 => by
    have ih0 := spec_l02Batch.mono_l k
    · intro y0 y1 y2 y3 y4 y5 y6 y7 y8
      unfold spec_l02Batch.l0
      repeat' first
      | (with_reducible exact ih0 _ _ _ _ _ _ _ _ _)
      | (with_reducible exact spec_l02Number.mono _ _ _)
      | (with_reducible exact spec_l02Request.mono _ _ _ _ _ _)
      | (with_reducible exact LeO.refl _)
      | (with_reducible exact LeO.none _)
      | (with_reducible refine LeO.ite ?_ ?_)
      | (with_reducible refine LeO.bind ?_ (fun _ => ?_))
      | exact ih0 _ _ _ _ _ _ _ _ _
      | exact spec_l02Number.mono _ _ _
      | exact spec_l02Request.mono _ _ _ _ _ _
      | exact LeO.none _
      | refine LeO.ite ?_ ?_
      | refine LeO.bind ?_ (fun _ => ?_)
theorem spec_l02Batch.mono : ∀ a0 a1 a2 a3 a4 a5 a6 k, LeO (spec_l02Batch.f k a0 a1 a2 a3 a4 a5 a6) (spec_l02Batch.f (k + 1) a0 a1 a2 a3 a4 a5 a6) := by
  intro a0 a1 a2 a3 a4 a5 a6 k
  have ih0 := spec_l02Batch.mono_l k
  unfold spec_l02Batch.f
  repeat' first
      | (with_reducible exact ih0 _ _ _ _ _ _ _ _ _)
      | (with_reducible exact spec_l02Number.mono _ _ _)
      | (with_reducible exact spec_l02Request.mono _ _ _ _ _ _)
      | (with_reducible exact LeO.refl _)
      | (with_reducible exact LeO.none _)
      | (with_reducible refine LeO.ite ?_ ?_)
      | (with_reducible refine LeO.bind ?_ (fun _ => ?_))
      | exact ih0 _ _ _ _ _ _ _ _ _
      | exact spec_l02Number.mono _ _ _
      | exact spec_l02Request.mono _ _ _ _ _ _
      | exact LeO.none _
      | refine LeO.ite ?_ ?_
      | refine LeO.bind ?_ (fun _ => ?_)
def spec_l02Batch.T7 : Bool × List (List Nat × List Nat) := (true, [([], []), ([], []), ([1], [1]), ([], []), ([2, 3], [2, 3]), ([4], [4]), ([5], [5]), ([6], [6]), ([7], [7]), ([0, 8], [0, 8]), ([], []), ([10], [10]), ([], []), ([11, 12], [11, 12]), ([13], [13]), ([14], [14]), ([15, 9], [15]), ([9, 16, 16], [9, 16]), ([17, 17, 0, 1, 2, 3, 4, 5, 6, 7, 8, 9, 10, 11, 12, 13, 14, 15, 16, 17], [0, 17])])
def spec_l02Batch.B7 : List Nat := [0, 0, 2, 0, 14, 30, 62, 126, 254, 511, 0, 1024, 0, 7168, 15360, 31744, 65535, 131071, 262143]
theorem spec_l02Batch.tab7 : rtab .any (opsOf Try.f84 7) = spec_l02Batch.T7 := by kernel_rfl
theorem spec_l02Batch.bits7 : waitsOk spec_l02Batch.T7.2 spec_l02Batch.B7 = true := by kernel_rfl
set_option maxHeartbeats 8000000 in
set_option maxRecDepth 100000 in
theorem spec_l02Batch.calls (k : Nat) (a0_0 : Bool) (a0_1 : Int) (a0_2 : Int) (a0_3 : Int) (a0_4 : Int) (a0_5 : ByteArray) (A0_6 : Option Addr) (c0_6 : Nat) (l0_6 : List (S137)) (r : List Int) (w : World) (hr0_6 : Kd.C k137 w A0_6 l0_6.length l0_6) (hc0_6 : l0_6.length ≤ c0_6) (h : spec_l02Batch.f k a0_0 a0_1 a0_2 a0_3 a0_4 a0_5 l0_6 = some r) :
    Calls Try.prog 84 #[.agg #[.bool a0_0, .int .i64 a0_1, .int .i64 a0_2, .int .i64 a0_3, .int .i64 a0_4, .string a0_5, .slice A0_6 l0_6.length c0_6]] w fun e w' => ∃ v0_ : Value, e = .returned (v0_) ∧ Kd.R (Kd.int .u8) 5 w' w.heap.size (fun _ => True) v0_ r ∧ Below w.heap.size w w' := by
  have hu60 := Try.underlying60
  have hu44 := Try.underlying44
  have HR0_6 := qj6 hr0_6
  have HC0_6 := qj6 hc0_6
  clear hr0_6 hc0_6
  have HB := qj6 (Below.refl w.heap.size w)
  have H : (if a0_0 = true then (some (([0] : List Int))) else (spec_l02Batch.l0 k (([(wrap64 (1 + (l0_6.length : Int))) % 256] : List Int)) 0 a0_0 a0_1 a0_2 a0_3 a0_4 a0_5 l0_6)) = some r := h
  clear h
  by_cases c2 : a0_0 = true
  · subst c2
    have H1 : (some (([0] : List Int))) = some r := by rw [if_pos rfl] at H; exact H
    clear H
    have H := H1
    clear H1
    obtain ⟨y165, hy165⟩ : ∃ y_ : List Int, y_ = (([0] : List Int)) := ⟨_, rfl⟩
    replace H : (some y165) = some r := by first | (rw [hy165]; with_reducible exact H) | (have H2_ := (Option.bind_some _ _).symm.trans H; rw [hy165]; with_reducible exact H2_) | (have H2_ := (Option.bind_some _ _).symm.trans H; with_reducible exact H2_) | with_reducible exact H | (rw [hy165]; exact H) | exact H
    have Ny165 := qj6 hy165
    clear hy165
    obtain rfl := Option.some.inj H
    go_enter Try.func84, Try.ntmps84
    go_wp2_with (first | ((with_reducible refine gate_dst (N := 1) rfl ?_); refine box_event ?hg (N := 1) ?hd (cs := #[.bool true, .int .i64 a0_1, .int .i64 a0_2, .int .i64 a0_3, .int .i64 a0_4, .string a0_5, .slice A0_6 l0_6.length c0_6]) (t := 60) ?hr ?_; (case hd => rfl); (case hg => rfl); (case hr => first | (go_simp; done) | (go_simp; rfl)); intro gb164 hg w3 hbox hb; have n0_ := qj6 (qk6 (by repeat (first | (with_reducible first | exact HB.out | apply qf6 | apply qg6 | apply qh6) | exact HB.out)) hb); have n1_ := qj6 (hbox); have n2_ := qj6 ((by rw [hg]; exact (ql6 (by repeat (first | (with_reducible first | exact HB.out | apply qf6 | apply qg6 | apply qh6) | exact HB.out))) : w.heap.size ≤ gb164)); have n3_ := qj6 ((by rw [hg]; exact (ql6 (by repeat (first | (with_reducible first | exact HB.out | apply qf6 | apply qg6 | apply qh6) | exact HB.out))) : w.heap.size ≤ gb164)); clear HB; have HB := n0_; have BK164 := n1_; have GW164 := n2_; have GE164 := n3_; clear n0_ n1_ n2_ n3_; clear hb hbox hg; have hcz4_0 : w3.cell? ⟨gb164, 0, none⟩ = some (.bool true) := (blk_cell BK164.out 0).trans rfl; have hcz4_1 : w3.cell? ⟨gb164, 1, none⟩ = some (.int .i64 a0_1) := (blk_cell BK164.out 1).trans rfl; have hcz4_2 : w3.cell? ⟨gb164, 2, none⟩ = some (.int .i64 a0_2) := (blk_cell BK164.out 2).trans rfl; have hcz4_3 : w3.cell? ⟨gb164, 3, none⟩ = some (.int .i64 a0_3) := (blk_cell BK164.out 3).trans rfl; have hcz4_4 : w3.cell? ⟨gb164, 4, none⟩ = some (.int .i64 a0_4) := (blk_cell BK164.out 4).trans rfl; have hcz4_5 : w3.cell? ⟨gb164, 5, none⟩ = some (.string a0_5) := (blk_cell BK164.out 5).trans rfl; have hcz4_6 : w3.cell? ⟨gb164, 6, none⟩ = some (.slice A0_6 l0_6.length c0_6) := (blk_cell BK164.out 6).trans rfl; have hfz4_0 := blk_frozen BK164.out 0; have hfz4_1 := blk_frozen BK164.out 1; have hfz4_2 := blk_frozen BK164.out 2; have hfz4_3 := blk_frozen BK164.out 3; have hfz4_4 := blk_frozen BK164.out 4; have hfz4_5 := blk_frozen BK164.out 5; have hfz4_6 := blk_frozen BK164.out 6) | ((with_reducible refine gate_dst (N := 7) rfl ?_); refine Kd.R_lit (Kd.int .u8) _ 5 ?hg (N := 7) ?hd (xs := ([0] : List Int)) (inner := [.int .u8 0]) (ok := fun _ => True) (okp := fun _ => True) ?hr ?hp (fun _ hk => hk) trivial (Below.refl _ _) (Nat.le_refl _) (by simp) ?_; (case hd => rfl); (case hg => rfl); (case hr => first | (go_simp; done) | (go_simp; rfl)); (case hp => exact (Reps.one (show Kd.M (Kd.int .u8) _ _ _ 0 [.int .u8 0] from rfl) (Reps.none _ _))); intro v166 w5 ho6 hb hg_ hnew_; clear hg_ hnew_; (first | rw [← Ny165.out] at ho6 | (simp only [Int.reduceToNat] at ho6; rw [← Ny165.out] at ho6)); have n0_ := qj6 (Kd.R_lower ho6 (ql6 (by repeat (first | (with_reducible first | exact HB.out | apply qf6 | apply qg6 | apply qh6 | refine qi6 ?_ GE164.out) | exact HB.out)))); have n1_ := qj6 (blk_below (g := gb164) (o := .cells #[.bool true, .int .i64 a0_1, .int .i64 a0_2, .int .i64 a0_3, .int .i64 a0_4, .string a0_5, .slice A0_6 l0_6.length c0_6] 60 (0, 0)) (by (with_reducible repeat (first | apply qa6 | apply qb6 | apply qc6)); exact BK164.out) hb); have n2_ := qj6 (qk6 (by repeat (first | (with_reducible first | exact HB.out | apply qf6 | apply qg6 | apply qh6 | refine qi6 ?_ GE164.out) | exact HB.out)) hb); clear BK164; clear HB; have HO167 := n0_; have BK164 := n1_; have HB := n2_; clear n0_ n1_ n2_; clear hb ho6))
    go_ret
    exact ⟨_, by first | rfl | (simp [errW_none, errW_some] <;> rfl) | (simp [*, errW_none, errW_some] <;> rfl), by (with_reducible repeat (first | apply qd6 | apply qe6 | apply Kd.R_drew)); exact HO167.out, by repeat (first | (with_reducible first | exact HB.out | apply qf6 | apply qg6 | apply qh6 | refine qi6 ?_ GE164.out) | exact HB.out)⟩
  · replace c2 := Bool.eq_false_iff.mpr c2
    subst c2
    have H1 : (spec_l02Batch.l0 k (([(wrap64 (1 + (l0_6.length : Int))) % 256] : List Int)) 0 false a0_1 a0_2 a0_3 a0_4 a0_5 l0_6) = some r := by rw [if_neg (show ¬ (false = true) by decide)] at H; exact H
    clear H
    have H := H1
    clear H1
    obtain ⟨y168, hy168⟩ : ∃ y_ : List Int, y_ = (([(wrap64 (1 + (l0_6.length : Int))) % 256] : List Int)) := ⟨_, rfl⟩
    replace H : (spec_l02Batch.l0 k y168 0 false a0_1 a0_2 a0_3 a0_4 a0_5 l0_6) = some r := by first | (rw [hy168]; with_reducible exact H) | (have H2_ := (Option.bind_some _ _).symm.trans H; rw [hy168]; with_reducible exact H2_) | (have H2_ := (Option.bind_some _ _).symm.trans H; with_reducible exact H2_) | with_reducible exact H | (rw [hy168]; exact H) | exact H
    have Ny168 := qj6 hy168
    clear hy168
    have H' := qj6 H
    clear H
    go_enter Try.func84, Try.ntmps84
    go_wp2_with (first | ((with_reducible refine gate_dst (N := 1) rfl ?_); refine box_event ?hg (N := 1) ?hd (cs := #[.bool false, .int .i64 a0_1, .int .i64 a0_2, .int .i64 a0_3, .int .i64 a0_4, .string a0_5, .slice A0_6 l0_6.length c0_6]) (t := 60) ?hr ?_; (case hd => rfl); (case hg => rfl); (case hr => first | (go_simp; done) | (go_simp; rfl)); intro gb164 hg w7 hbox hb; have n0_ := qj6 (qk6 (by repeat (first | (with_reducible first | exact HB.out | apply qf6 | apply qg6 | apply qh6) | exact HB.out)) hb); have n1_ := qj6 (hbox); have n2_ := qj6 ((by rw [hg]; exact (ql6 (by repeat (first | (with_reducible first | exact HB.out | apply qf6 | apply qg6 | apply qh6) | exact HB.out))) : w.heap.size ≤ gb164)); have n3_ := qj6 ((by rw [hg]; exact (ql6 (by repeat (first | (with_reducible first | exact HB.out | apply qf6 | apply qg6 | apply qh6) | exact HB.out))) : w.heap.size ≤ gb164)); clear HB; have HB := n0_; have BK164 := n1_; have GW164 := n2_; have GE164 := n3_; clear n0_ n1_ n2_ n3_; clear hb hbox hg; have hcz8_0 : w7.cell? ⟨gb164, 0, none⟩ = some (.bool false) := (blk_cell BK164.out 0).trans rfl; have hcz8_1 : w7.cell? ⟨gb164, 1, none⟩ = some (.int .i64 a0_1) := (blk_cell BK164.out 1).trans rfl; have hcz8_2 : w7.cell? ⟨gb164, 2, none⟩ = some (.int .i64 a0_2) := (blk_cell BK164.out 2).trans rfl; have hcz8_3 : w7.cell? ⟨gb164, 3, none⟩ = some (.int .i64 a0_3) := (blk_cell BK164.out 3).trans rfl; have hcz8_4 : w7.cell? ⟨gb164, 4, none⟩ = some (.int .i64 a0_4) := (blk_cell BK164.out 4).trans rfl; have hcz8_5 : w7.cell? ⟨gb164, 5, none⟩ = some (.string a0_5) := (blk_cell BK164.out 5).trans rfl; have hcz8_6 : w7.cell? ⟨gb164, 6, none⟩ = some (.slice A0_6 l0_6.length c0_6) := (blk_cell BK164.out 6).trans rfl; have hfz8_0 := blk_frozen BK164.out 0; have hfz8_1 := blk_frozen BK164.out 1; have hfz8_2 := blk_frozen BK164.out 2; have hfz8_3 := blk_frozen BK164.out 3; have hfz8_4 := blk_frozen BK164.out 4; have hfz8_5 := blk_frozen BK164.out 5; have hfz8_6 := blk_frozen BK164.out 6) | ((with_reducible refine gate_dst (N := 13) rfl ?_); refine Kd.R_lit (Kd.int .u8) _ 5 ?hg (N := 13) ?hd (xs := ([(wrap64 (1 + (l0_6.length : Int))) % 256] : List Int)) (inner := [.int .u8 ((wrap64 (1 + (l0_6.length : Int))) % 256)]) (ok := fun _ => True) (okp := fun _ => True) ?hr ?hp (fun _ hk => hk) trivial (Below.refl _ _) (Nat.le_refl _) (by simp) ?_; (case hd => rfl); (case hg => rfl); (case hr => first | (go_simp; done) | (go_simp; rfl)); (case hp => exact (Reps.one (show Kd.M (Kd.int .u8) _ _ _ ((wrap64 (1 + (l0_6.length : Int))) % 256) [.int .u8 ((wrap64 (1 + (l0_6.length : Int))) % 256)] from rfl) (Reps.none _ _))); intro v169 w9 ho10 hb hg_ hnew_; clear hg_ hnew_; (first | rw [← Ny168.out] at ho10 | (simp only [Int.reduceToNat] at ho10; rw [← Ny168.out] at ho10)); have n0_ := qj6 (Kd.R_lower ho10 (ql6 (by repeat (first | (with_reducible first | exact HB.out | apply qf6 | apply qg6 | apply qh6 | refine qi6 ?_ GE164.out) | exact HB.out)))); have n1_ := qj6 (blk_below (g := gb164) (o := .cells #[.bool false, .int .i64 a0_1, .int .i64 a0_2, .int .i64 a0_3, .int .i64 a0_4, .string a0_5, .slice A0_6 l0_6.length c0_6] 60 (0, 0)) (by (with_reducible repeat (first | apply qa6 | apply qb6 | apply qc6)); exact BK164.out) hb); have n2_ := qj6 (qk6 (by repeat (first | (with_reducible first | exact HB.out | apply qf6 | apply qg6 | apply qh6 | refine qi6 ?_ GE164.out) | exact HB.out)) hb); clear BK164; clear HB; have HO170 := n0_; have BK164 := n1_; have HB := n2_; clear n0_ n1_ n2_; clear hb ho10))
    go_loopg [3, 4] k (fun kq v3 v4 w' => ∃ (x3_1 : List Int) (x4_1 : Int), v4 = .int .i64 x4_1 ∧ Aside0 (spec_l02Batch.l0 kq x3_1 x4_1 false a0_1 a0_2 a0_3 a0_4 a0_5 l0_6 = some r) ∧ Aside0 (kq ≤ k) ∧ Aside0 (Kd.R (Kd.int .u8) 5 w' w.heap.size (fun _ => True) v3 x3_1) ∧ Aside0 (w'.heap[gb164]? = some (.cells #[.bool false, .int .i64 a0_1, .int .i64 a0_2, .int .i64 a0_3, .int .i64 a0_4, .string a0_5, (.slice A0_6 l0_6.length c0_6)] 60 (0, 0))) ∧ Aside0 (Below w.heap.size w w'))
    case atStart => exact ⟨(y168), (0), (by first | rfl | (simp; done) | (simp [*]; done)), H', ⟨Nat.le_refl _⟩, ⟨by (with_reducible repeat (first | apply qd6 | apply qe6 | apply Kd.R_drew)); exact HO170.out⟩, ⟨by (with_reducible repeat (first | apply qa6 | apply qb6 | apply qc6)); exact BK164.out⟩, ⟨by repeat (first | (with_reducible first | exact HB.out | apply qf6 | apply qg6 | apply qh6 | refine qi6 ?_ GE164.out) | exact HB.out)⟩⟩
    case round =>
      clear H'
      try clear c2
      try clear p2
      try clear p6
      try clear c8
      try clear hcz4_0
      try clear hcz4_1
      try clear hcz4_2
      try clear hcz4_3
      try clear hcz4_4
      try clear hcz4_5
      try clear hcz4_6
      try clear hcz8_0
      try clear hcz8_1
      try clear hcz8_2
      try clear hcz8_3
      try clear hcz8_4
      try clear hcz8_5
      try clear hcz8_6
      try clear hfz4_0
      try clear hfz4_1
      try clear hfz4_2
      try clear hfz4_3
      try clear hfz4_4
      try clear hfz4_5
      try clear hfz4_6
      try clear hfz8_0
      try clear hfz8_1
      try clear hfz8_2
      try clear hfz8_3
      try clear hfz8_4
      try clear hfz8_5
      try clear hfz8_6
      obtain ⟨x3_1, x4_1, rfl, HA, HK1, HO_3, BK164, HB⟩ := hrel
      cases gk with
      | zero => exact absurd HA.out (by simp [spec_l02Batch.l0])
      | succ k1 =>
        have H := HA.out
        clear HA
        simp only [spec_l02Batch.l0] at H
        by_cases c11 : x4_1 < (l0_6.length : Int)
        · rw [if_pos c11] at H
          have c11b0 : decide (x4_1 < (l0_6.length : Int)) = true := decide_eq_true c11
          clear c11
          by_cases c12 : 0 ≤ x4_1
          · rw [if_pos c12] at H
            have c12b0 : decide (0 ≤ x4_1) = true := decide_eq_true c12
            clear c12
            by_cases c13 : x3_1.length < 140737488355328
            · rw [if_pos c13] at H
              have LMc13 := qj6 c13
              clear c13
              obtain ⟨y172, hy172⟩ : ∃ y_ : List Int, y_ = (x3_1 ++ [((rd_T137 l0_6 x4_1).f0) % 256]) := ⟨_, rfl⟩
              replace H : ((spec_l02Number.f k1 ((rd_T137 l0_6 x4_1).f1) 4).bind fun t176 => (if y172.length + t176.length < 140737488355328 then ((some (y172 ++ t176 : List Int)).bind fun y179 => (if y179.length + ((rd_T137 l0_6 x4_1).f2).size < 140737488355328 then (spec_l02Batch.l0 k1 (y179 ++ bytesOf ((rd_T137 l0_6 x4_1).f2)) (wrap64 (x4_1 + 1)) false a0_1 a0_2 a0_3 a0_4 a0_5 l0_6) else (none))) else (none))) = some r := by first | (rw [hy172]; with_reducible exact H) | (have H2_ := (Option.bind_some _ _).symm.trans H; rw [hy172]; with_reducible exact H2_) | (have H2_ := (Option.bind_some _ _).symm.trans H; with_reducible exact H2_) | with_reducible exact H | (rw [hy172]; exact H) | exact H
              have Ny172 := qj6 hy172
              clear hy172
              replace H := Option.bind_eq_some_iff.mp H
              obtain ⟨t176, A140, H⟩ := H
              replace H : (if y172.length + t176.length < 140737488355328 then ((some (y172 ++ t176 : List Int)).bind fun y179 => (if y179.length + ((rd_T137 l0_6 x4_1).f2).size < 140737488355328 then (spec_l02Batch.l0 k1 (y179 ++ bytesOf ((rd_T137 l0_6 x4_1).f2)) (wrap64 (x4_1 + 1)) false a0_1 a0_2 a0_3 a0_4 a0_5 l0_6) else (none))) else (none)) = some r := H
              have A14 := qj6 A140
              clear A140
              by_cases c15 : y172.length + t176.length < 140737488355328
              · rw [if_pos c15] at H
                have LMc15 := qj6 c15
                clear c15
                obtain ⟨y179, hy179⟩ : ∃ y_ : List Int, y_ = (y172 ++ t176) := ⟨_, rfl⟩
                replace H : (if y179.length + ((rd_T137 l0_6 x4_1).f2).size < 140737488355328 then (spec_l02Batch.l0 k1 (y179 ++ bytesOf ((rd_T137 l0_6 x4_1).f2)) (wrap64 (x4_1 + 1)) false a0_1 a0_2 a0_3 a0_4 a0_5 l0_6) else (none)) = some r := by first | (rw [hy179]; with_reducible exact H) | (have H2_ := (Option.bind_some _ _).symm.trans H; rw [hy179]; with_reducible exact H2_) | (have H2_ := (Option.bind_some _ _).symm.trans H; with_reducible exact H2_) | with_reducible exact H | (rw [hy179]; exact H) | exact H
                have Ny179 := qj6 hy179
                clear hy179
                by_cases c16 : y179.length + ((rd_T137 l0_6 x4_1).f2).size < 140737488355328
                · rw [if_pos c16] at H
                  have LMc16 := qj6 c16
                  clear c16
                  obtain ⟨y183, hy183⟩ : ∃ y_ : List Int, y_ = (y179 ++ bytesOf ((rd_T137 l0_6 x4_1).f2)) := ⟨_, rfl⟩
                  replace H : (spec_l02Batch.l0 k1 y183 (wrap64 (x4_1 + 1)) false a0_1 a0_2 a0_3 a0_4 a0_5 l0_6) = some r := by first | (rw [hy183]; with_reducible exact H) | (have H2_ := (Option.bind_some _ _).symm.trans H; rw [hy183]; with_reducible exact H2_) | (have H2_ := (Option.bind_some _ _).symm.trans H; with_reducible exact H2_) | with_reducible exact H | (rw [hy183]; exact H) | exact H
                  have Ny183 := qj6 hy183
                  clear hy183
                  have H' := qj6 H
                  clear H
                  have hcz17_0 : wr.cell? ⟨gb164, 0, none⟩ = some (.bool false) := (blk_cell BK164.out 0).trans rfl
                  have hcz17_1 : wr.cell? ⟨gb164, 1, none⟩ = some (.int .i64 a0_1) := (blk_cell BK164.out 1).trans rfl
                  have hcz17_2 : wr.cell? ⟨gb164, 2, none⟩ = some (.int .i64 a0_2) := (blk_cell BK164.out 2).trans rfl
                  have hcz17_3 : wr.cell? ⟨gb164, 3, none⟩ = some (.int .i64 a0_3) := (blk_cell BK164.out 3).trans rfl
                  have hcz17_4 : wr.cell? ⟨gb164, 4, none⟩ = some (.int .i64 a0_4) := (blk_cell BK164.out 4).trans rfl
                  have hcz17_5 : wr.cell? ⟨gb164, 5, none⟩ = some (.string a0_5) := (blk_cell BK164.out 5).trans rfl
                  have hcz17_6 : wr.cell? ⟨gb164, 6, none⟩ = some (.slice A0_6 l0_6.length c0_6) := (blk_cell BK164.out 6).trans rfl
                  have hfz17_0 := blk_frozen BK164.out 0
                  have hfz17_1 := blk_frozen BK164.out 1
                  have hfz17_2 := blk_frozen BK164.out 2
                  have hfz17_3 := blk_frozen BK164.out 3
                  have hfz17_4 := blk_frozen BK164.out 4
                  have hfz17_5 := blk_frozen BK164.out 5
                  have hfz17_6 := blk_frozen BK164.out 6
                  try go_wp2
                  have n0_ := qj6 (Kd.R_drew HO_3.out)
                  have n1_ := qj6 (qb6 BK164.out)
                  have n2_ := qj6 (qh6 HB.out)
                  clear HO_3
                  clear BK164
                  clear HB
                  have HO_3 := n0_
                  have BK164 := n1_
                  have HB := n2_
                  clear n0_ n1_ n2_
                  have p171 : 0 ≤ (x4_1 : Int) := of_decide_eq_true (by first | (with_reducible assumption) | assumption)
                  have q171 : x4_1 < (l0_6.length : Int) := of_decide_eq_true (by first | (with_reducible assumption) | assumption)
                  obtain ⟨ad171, e171, hx171_0, hx171_1, hx171_2⟩ := at_T137 HR0_6.out x4_1 p171 q171
                  have hw171_2 := hx171_2
                  have hw171_1 := hx171_1
                  have hw171_0 := hx171_0
                  cases e171
                  replace hx171_0 := (HB.out.cell (World.block_lt_of_cell? w _ hx171_0)).trans hx171_0
                  replace hx171_1 := (HB.out.cell (World.block_lt_of_cell? w _ hx171_1)).trans hx171_1
                  replace hx171_2 := (HB.out.cell (World.block_lt_of_cell? w _ hx171_2)).trans hx171_2
                  replace p171 := eq_true p171
                  replace q171 := eq_true q171
                  have p175 : 0 ≤ (x4_1 : Int) := of_decide_eq_true (by first | (with_reducible assumption) | assumption)
                  have q175 : x4_1 < (l0_6.length : Int) := of_decide_eq_true (by first | (with_reducible assumption) | assumption)
                  obtain ⟨ad175, e175, hx175_0, hx175_1, hx175_2⟩ := at_T137 HR0_6.out x4_1 p175 q175
                  have hw175_2 := hx175_2
                  have hw175_1 := hx175_1
                  have hw175_0 := hx175_0
                  obtain rfl : ad171 = ad175 := (by injection e175)
                  replace hx175_0 := (HB.out.cell (World.block_lt_of_cell? w _ hx175_0)).trans hx175_0
                  replace hx175_1 := (HB.out.cell (World.block_lt_of_cell? w _ hx175_1)).trans hx175_1
                  replace hx175_2 := (HB.out.cell (World.block_lt_of_cell? w _ hx175_2)).trans hx175_2
                  replace p175 := eq_true p175
                  replace q175 := eq_true q175
                  refine start_ (n := 19) (S := fun w' => w'.cell? ⟨gb164, 0, none⟩ = some (.bool false) ∧ w'.cell? ⟨gb164, 1, none⟩ = some (.int .i64 a0_1) ∧ w'.cell? ⟨gb164, 2, none⟩ = some (.int .i64 a0_2) ∧ w'.cell? ⟨gb164, 3, none⟩ = some (.int .i64 a0_3) ∧ w'.cell? ⟨gb164, 4, none⟩ = some (.int .i64 a0_4) ∧ w'.cell? ⟨gb164, 5, none⟩ = some (.string a0_5) ∧ w'.cell? ⟨gb164, 6, none⟩ = some (.slice (some ad171) l0_6.length c0_6) ∧ w'.cell? (ad171.add ((x4_1).toNat * 3)) = some (.int .i64 ((rd_T137 l0_6 x4_1).f0)) ∧ w'.cell? ⟨(ad171.add ((x4_1).toNat * 3)).block, (ad171.add ((x4_1).toNat * 3)).off + 1, none⟩ = some (.int .i64 ((rd_T137 l0_6 x4_1).f1)) ∧ w'.cell? ⟨(ad171.add ((x4_1).toNat * 3)).block, (ad171.add ((x4_1).toNat * 3)).off + 2, none⟩ = some (.string ((rd_T137 l0_6 x4_1).f2)) ∧ w'.cell? (ad171.add ((x4_1).toNat * 3)) = some (.int .i64 ((rd_T137 l0_6 x4_1).f0)) ∧ w'.cell? ⟨(ad171.add ((x4_1).toNat * 3)).block, (ad171.add ((x4_1).toNat * 3)).off + 1, none⟩ = some (.int .i64 ((rd_T137 l0_6 x4_1).f1)) ∧ w'.cell? ⟨(ad171.add ((x4_1).toNat * 3)).block, (ad171.add ((x4_1).toNat * 3)).off + 2, none⟩ = some (.string ((rd_T137 l0_6 x4_1).f2))) (ds := []) #[false, false, false, false, false, false, false, false, false, false, false, false, false, false, false, false, false, false, false] (by kernel_rfl) rfl rfl ⟨(blk_cell BK164.out 0).trans rfl, (blk_cell BK164.out 1).trans rfl, (blk_cell BK164.out 2).trans rfl, (blk_cell BK164.out 3).trans rfl, (blk_cell BK164.out 4).trans rfl, (blk_cell BK164.out 5).trans rfl, (blk_cell BK164.out 6).trans rfl, ((HB.out.cell (World.block_lt_of_cell? w _ hw171_0)).trans hw171_0), ((HB.out.cell (World.block_lt_of_cell? w _ hw171_1)).trans hw171_1), ((HB.out.cell (World.block_lt_of_cell? w _ hw171_2)).trans hw171_2), ((HB.out.cell (World.block_lt_of_cell? w _ hw175_0)).trans hw175_0), ((HB.out.cell (World.block_lt_of_cell? w _ hw175_1)).trans hw175_1), ((HB.out.cell (World.block_lt_of_cell? w _ hw175_2)).trans hw175_2)⟩ (fun hHeld => ?_); refine with_tabW spec_l02Batch.tab7 spec_l02Batch.bits7 (fun HT_ HW_ => ?_)
                  generalize wr.drew = w18 at HO_3 BK164 HB hx171_0 hx171_1 hx171_2 hx175_0 hx175_1 hx175_2 hHeld ⊢
                  refine pure_ (i := 0) (N := some 21) (v := ?_) (a' := ?_) #[true, false, false, false, false, false, false, false, false, false, false, false, false, false, false, false, false, false, false] rfl rfl (any_of HT_.out (by kernel_rfl)) (fun _ _ _ h => h) (Or.inl ⟨by rfl, ?_⟩) ?_ ?_
                  rotate_left
                  · intro w'
                    go_simp
                    with_reducible rfl
                  rotate_left
                  · simp only [Act.put, List.setIfInBounds_toArray, List.set_cons_zero, List.set_cons_succ, i64_w, i32_w]
                    rfl
                  refine pure_ (i := 1) (N := some 22) (v := ?_) (a' := ?_) #[true, true, false, false, false, false, false, false, false, false, false, false, false, false, false, false, false, false, false] rfl rfl (any_of HT_.out (by kernel_rfl)) (fun _ _ _ h => h) (Or.inl ⟨by rfl, ?_⟩) ?_ ?_
                  rotate_left
                  · intro w'
                    go_simp
                    with_reducible rfl
                  rotate_left
                  · simp only [Act.put, List.setIfInBounds_toArray, List.set_cons_zero, List.set_cons_succ, i64_w, i32_w]
                    rfl
                  refine pure_ (i := 3) (N := some 24) (v := ?_) (a' := ?_) #[true, true, false, true, false, false, false, false, false, false, false, false, false, false, false, false, false, false, false] rfl rfl (any_of HT_.out (by kernel_rfl)) (fun _ _ _ h => h) (Or.inl ⟨by rfl, ?_⟩) ?_ ?_
                  rotate_left
                  · intro w'
                    go_simp
                    with_reducible rfl
                  rotate_left
                  · simp only [Act.put, List.setIfInBounds_toArray, List.set_cons_zero, List.set_cons_succ, i64_w, i32_w]
                    rfl
                  refine pure_ (i := 10) (N := some 31) (v := ?_) (a' := ?_) #[true, true, false, true, false, false, false, false, false, false, true, false, false, false, false, false, false, false, false] rfl rfl (any_of HT_.out (by kernel_rfl)) (fun _ _ _ h => h) (Or.inl ⟨by rfl, ?_⟩) ?_ ?_
                  rotate_left
                  · intro w'
                    go_simp
                    with_reducible rfl
                  rotate_left
                  · simp only [Act.put, List.setIfInBounds_toArray, List.set_cons_zero, List.set_cons_succ, i64_w, i32_w]
                    rfl
                  refine pure_ (i := 12) (N := some 33) (v := ?_) (a' := ?_) #[true, true, false, true, false, false, false, false, false, false, true, false, true, false, false, false, false, false, false] rfl rfl (any_of HT_.out (by kernel_rfl)) (fun _ _ _ h => h) (Or.inl ⟨by rfl, ?_⟩) ?_ ?_
                  rotate_left
                  · intro w'
                    go_simp
                    with_reducible rfl
                  rotate_left
                  · simp only [Act.put, List.setIfInBounds_toArray, List.set_cons_zero, List.set_cons_succ, i64_w, i32_w]
                    rfl
                  refine take_ (i := 2) (N := some 23) (v := ?_) (a' := ?_) #[true, true, true, true, false, false, false, false, false, false, true, false, true, false, false, false, false, false, false] rfl rfl (take_ofW HT_.out HW_.out (by kernel_rfl)) (fun _ _ _ h => h) (Or.inl ⟨by rfl, ?_⟩) hHeld ?_ ?_
                  rotate_left
                  · rintro w' ⟨s0, s1, s2, s3, s4, s5, s6, s7, s8, s9, s10, s11, s12⟩
                    go_simp
                    with_reducible rfl
                  rotate_left
                  · simp only [Act.put, List.setIfInBounds_toArray, List.set_cons_zero, List.set_cons_succ, i64_w, i32_w]
                    rfl
                  refine pure_ (i := 4) (N := some 25) (v := ?_) (a' := ?_) #[true, true, true, true, true, false, false, false, false, false, true, false, true, false, false, false, false, false, false] rfl rfl (any_of HT_.out (by kernel_rfl)) (fun _ _ _ h => h) (Or.inl ⟨by rfl, ?_⟩) ?_ ?_
                  rotate_left
                  · intro w'
                    go_simp
                    with_reducible rfl
                  rotate_left
                  · simp only [Act.put, List.setIfInBounds_toArray, List.set_cons_zero, List.set_cons_succ, i64_w, i32_w]
                    rfl
                  refine pure_ (i := 5) (N := some 26) (v := ?_) (a' := ?_) #[true, true, true, true, true, true, false, false, false, false, true, false, true, false, false, false, false, false, false] rfl rfl (any_of HT_.out (by kernel_rfl)) (fun _ _ _ h => h) (Or.inl ⟨by rfl, ?_⟩) ?_ ?_
                  rotate_left
                  · intro w'
                    go_simp
                    with_reducible rfl
                  rotate_left
                  · simp only [Act.put, List.setIfInBounds_toArray, List.set_cons_zero, List.set_cons_succ, i64_w, i32_w]
                    rfl
                  refine take_ (i := 6) (N := some 27) (v := ?_) (a' := ?_) #[true, true, true, true, true, true, true, false, false, false, true, false, true, false, false, false, false, false, false] rfl rfl (take_ofW HT_.out HW_.out (by kernel_rfl)) (fun _ _ _ h => h) (Or.inl ⟨by rfl, ?_⟩) hHeld ?_ ?_
                  rotate_left
                  · rintro w' ⟨s0, s1, s2, s3, s4, s5, s6, s7, s8, s9, s10, s11, s12⟩
                    go_simp
                    with_reducible rfl
                  rotate_left
                  · simp only [Act.put, List.setIfInBounds_toArray, List.set_cons_zero, List.set_cons_succ, i64_w, i32_w]
                    rfl
                  refine pure_ (i := 7) (N := some 28) (v := ?_) (a' := ?_) #[true, true, true, true, true, true, true, true, false, false, true, false, true, false, false, false, false, false, false] rfl rfl (any_of HT_.out (by kernel_rfl)) (fun _ _ _ h => h) (Or.inl ⟨by rfl, ?_⟩) ?_ ?_
                  rotate_left
                  · intro w'
                    go_simp
                    with_reducible rfl
                  rotate_left
                  · simp only [Act.put, List.setIfInBounds_toArray, List.set_cons_zero, List.set_cons_succ, i64_w, i32_w]
                    rfl
                  refine take_ (i := 11) (N := some 32) (v := ?_) (a' := ?_) #[true, true, true, true, true, true, true, true, false, false, true, true, true, false, false, false, false, false, false] rfl rfl (take_ofW HT_.out HW_.out (by kernel_rfl)) (fun _ _ _ h => h) (Or.inl ⟨by rfl, ?_⟩) hHeld ?_ ?_
                  rotate_left
                  · rintro w' ⟨s0, s1, s2, s3, s4, s5, s6, s7, s8, s9, s10, s11, s12⟩
                    go_simp
                    with_reducible rfl
                  rotate_left
                  · simp only [Act.put, List.setIfInBounds_toArray, List.set_cons_zero, List.set_cons_succ, i64_w, i32_w]
                    rfl
                  refine pure_ (i := 13) (N := some 34) (v := ?_) (a' := ?_) #[true, true, true, true, true, true, true, true, false, false, true, true, true, true, false, false, false, false, false] rfl rfl (any_of HT_.out (by kernel_rfl)) (fun _ _ _ h => h) (Or.inl ⟨by rfl, ?_⟩) ?_ ?_
                  rotate_left
                  · intro w'
                    go_simp
                    with_reducible rfl
                  rotate_left
                  · simp only [Act.put, List.setIfInBounds_toArray, List.set_cons_zero, List.set_cons_succ, i64_w, i32_w]
                    rfl
                  refine pure_ (i := 14) (N := some 35) (v := ?_) (a' := ?_) #[true, true, true, true, true, true, true, true, false, false, true, true, true, true, true, false, false, false, false] rfl rfl (any_of HT_.out (by kernel_rfl)) (fun _ _ _ h => h) (Or.inl ⟨by rfl, ?_⟩) ?_ ?_
                  rotate_left
                  · intro w'
                    go_simp
                    with_reducible rfl
                  rotate_left
                  · simp only [Act.put, List.setIfInBounds_toArray, List.set_cons_zero, List.set_cons_succ, i64_w, i32_w]
                    rfl
                  refine take_ (i := 15) (N := some 36) (v := ?_) (a' := ?_) #[true, true, true, true, true, true, true, true, false, false, true, true, true, true, true, true, false, false, false] rfl rfl (take_ofW HT_.out HW_.out (by kernel_rfl)) (fun _ _ _ h => h) (Or.inl ⟨by rfl, ?_⟩) hHeld ?_ ?_
                  rotate_left
                  · rintro w' ⟨s0, s1, s2, s3, s4, s5, s6, s7, s8, s9, s10, s11, s12⟩
                    go_simp
                    with_reducible rfl
                  rotate_left
                  · simp only [Act.put, List.setIfInBounds_toArray, List.set_cons_zero, List.set_cons_succ, i64_w, i32_w]
                    rfl
                  refine one_ (i := 8) (N := some 29) #[true, true, true, true, true, true, true, true, true, false, true, true, true, true, true, true, false, false, false] rfl rfl (one_of HT_.out (by kernel_rfl)) (by decide) (fun K hK => ?_)
                  refine value_ (w1 := ?_) (v := ?_) (by rfl) rfl ?_ ?_
                  rotate_left 2
                  · go_simp
                    constructor
                    · rfl
                    · rfl
                  refine hK.out _ _ ⟨(blk_cell (qc6 BK164.out _) 0).trans rfl, (blk_cell (qc6 BK164.out _) 1).trans rfl, (blk_cell (qc6 BK164.out _) 2).trans rfl, (blk_cell (qc6 BK164.out _) 3).trans rfl, (blk_cell (qc6 BK164.out _) 4).trans rfl, (blk_cell (qc6 BK164.out _) 5).trans rfl, (blk_cell (qc6 BK164.out _) 6).trans rfl, (World.cell?_alloc_lt _ _ _ (World.block_lt_of_cell? _ _ (((HB.out.cell (World.block_lt_of_cell? w _ hw171_0)).trans hw171_0)))).trans (((HB.out.cell (World.block_lt_of_cell? w _ hw171_0)).trans hw171_0)), (World.cell?_alloc_lt _ _ _ (World.block_lt_of_cell? _ _ (((HB.out.cell (World.block_lt_of_cell? w _ hw171_1)).trans hw171_1)))).trans (((HB.out.cell (World.block_lt_of_cell? w _ hw171_1)).trans hw171_1)), (World.cell?_alloc_lt _ _ _ (World.block_lt_of_cell? _ _ (((HB.out.cell (World.block_lt_of_cell? w _ hw171_2)).trans hw171_2)))).trans (((HB.out.cell (World.block_lt_of_cell? w _ hw171_2)).trans hw171_2)), (World.cell?_alloc_lt _ _ _ (World.block_lt_of_cell? _ _ (((HB.out.cell (World.block_lt_of_cell? w _ hw175_0)).trans hw175_0)))).trans (((HB.out.cell (World.block_lt_of_cell? w _ hw175_0)).trans hw175_0)), (World.cell?_alloc_lt _ _ _ (World.block_lt_of_cell? _ _ (((HB.out.cell (World.block_lt_of_cell? w _ hw175_1)).trans hw175_1)))).trans (((HB.out.cell (World.block_lt_of_cell? w _ hw175_1)).trans hw175_1)), (World.cell?_alloc_lt _ _ _ (World.block_lt_of_cell? _ _ (((HB.out.cell (World.block_lt_of_cell? w _ hw175_2)).trans hw175_2)))).trans (((HB.out.cell (World.block_lt_of_cell? w _ hw175_2)).trans hw175_2))⟩ (fun hHeld => ?_)
                  clear hK K
                  refine norm_ (a' := ?_) ?_ ?_
                  rotate_left
                  · show Act.put _ (some 29) _ = _
                    simp only [Act.put, List.setIfInBounds_toArray, List.set_cons_zero, List.set_cons_succ, i64_w, i32_w]
                    rfl
                  refine one_ (i := 9) (N := some 30) #[true, true, true, true, true, true, true, true, true, true, true, true, true, true, true, true, false, false, false] rfl rfl (one_of HT_.out (by kernel_rfl)) (by decide) (fun K hK => ?_)
                  refine Kd.R_append_step (Kd.int .u8) (w0 := w) w.heap.size (by rfl) (.tmp 21) (.tmp 29) 26 5 (.int .u8 0) 1 rfl Try.underlying26 info5 rfl (by decide) (by omega) u3 x3_1 (((rd_T137 l0_6 x4_1).f0) % 256) [.int .u8 (((rd_T137 l0_6 x4_1).f0) % 256)] (fun _ => True) (fun _ => False) rfl rfl ?aP (fun _ hk => hk.elim) ?aF ?aO ?aB ?aS ?aL ?_
                  (case aP => exact rfl)
                  (case aB => exact (by repeat (first | (with_reducible first | exact HB.out | apply qf6 | apply qg6 | apply qh6 | refine qi6 ?_ GE164.out) | exact HB.out)))
                  (case aF => exact (fun _ _ => trivial))
                  (case aO => exact (by (with_reducible repeat (first | apply qd6 | apply qe6 | apply Kd.R_drew)); exact HO_3.out))
                  (case aS => exact (ql6 (by repeat (first | (with_reducible first | exact HB.out | apply qf6 | apply qg6 | apply qh6 | refine qi6 ?_ GE164.out) | exact HB.out))))
                  (case aL => have := LMc13.out; omega)
                  intro v173 w19 ho hb hg hat
                  rw [← Ny172.out] at ho
                  have n0_ := qj6 (blk_grown (g := gb164) (o := .cells #[.bool false, .int .i64 a0_1, .int .i64 a0_2, .int .i64 a0_3, .int .i64 a0_4, .string a0_5, .slice (some ad171) l0_6.length c0_6] 60 (0, 0)) (by (with_reducible repeat (first | apply qa6 | apply qb6 | apply qc6)); exact BK164.out) hg (Kd.R_ne HO_3.out BK164.out (by decide)))
                  have n1_ := qj6 (hb)
                  have n2_ := qj6 (ho)
                  clear BK164
                  clear HB
                  clear HO_3
                  have BK164 := n0_
                  have HB := n1_
                  have HO174 := n2_
                  clear n0_ n1_ n2_
                  clear ho hb hg hat
                  refine hK.out _ _ ⟨(blk_cell BK164.out 0).trans rfl, (blk_cell BK164.out 1).trans rfl, (blk_cell BK164.out 2).trans rfl, (blk_cell BK164.out 3).trans rfl, (blk_cell BK164.out 4).trans rfl, (blk_cell BK164.out 5).trans rfl, (blk_cell BK164.out 6).trans rfl, ((HB.out.cell (World.block_lt_of_cell? w _ hw171_0)).trans hw171_0), ((HB.out.cell (World.block_lt_of_cell? w _ hw171_1)).trans hw171_1), ((HB.out.cell (World.block_lt_of_cell? w _ hw171_2)).trans hw171_2), ((HB.out.cell (World.block_lt_of_cell? w _ hw175_0)).trans hw175_0), ((HB.out.cell (World.block_lt_of_cell? w _ hw175_1)).trans hw175_1), ((HB.out.cell (World.block_lt_of_cell? w _ hw175_2)).trans hw175_2)⟩ (fun hHeld => ?_)
                  clear hK K
                  refine norm_ (a' := ?_) ?_ ?_
                  rotate_left
                  · show Act.put _ (some 30) _ = _
                    simp only [Act.put, List.setIfInBounds_toArray, List.set_cons_zero, List.set_cons_succ, i64_w, i32_w]
                    rfl
                  refine one_ (i := 16) (N := some 37) #[true, true, true, true, true, true, true, true, true, true, true, true, true, true, true, true, true, false, false] rfl rfl (one_of HT_.out (by kernel_rfl)) (by decide) (fun K hK => ?_)
                  refine goes_ Try.func111 (by kernel_rfl) rfl #[.int .i64 ((rd_T137 l0_6 x4_1).f1), .int .i64 4] (by rfl) rfl rfl (by (try simp only [List.map_toArray, List.map_cons, List.map_nil]); first | done | rfl | (simp only [List.length_drop, List.length_take]; rfl)) ?_
                  with_reducible refine (spec_l02Number.calls k1 ((rd_T137 l0_6 x4_1).f1) 4 t176 _ A14.out).mono ?_
                  rintro e w20 ⟨v177, rfl, ho0, hb⟩
                  refine ⟨_, rfl, ?_⟩
                  have n0_ := qj6 (Kd.R_elder' (by (with_reducible repeat (first | apply qd6 | apply qe6 | apply Kd.R_drew)); exact HO174.out) (Kd.R_base ho0) hb)
                  have n1_ := qj6 (Kd.R_lower (Kd.R_new' ho0 (Kd.R_lt (by (with_reducible repeat (first | apply qd6 | apply qe6 | apply Kd.R_drew)); exact HO174.out))) (ql6 (by repeat (first | (with_reducible first | exact HB.out | apply qf6 | apply qg6 | apply qh6 | refine qi6 ?_ GE164.out) | exact HB.out))))
                  have n2_ := qj6 (blk_below (g := gb164) (o := .cells #[.bool false, .int .i64 a0_1, .int .i64 a0_2, .int .i64 a0_3, .int .i64 a0_4, .string a0_5, .slice (some ad171) l0_6.length c0_6] 60 (0, 0)) (by (with_reducible repeat (first | apply qa6 | apply qb6 | apply qc6)); exact BK164.out) hb)
                  have n3_ := qj6 (qk6 (by repeat (first | (with_reducible first | exact HB.out | apply qf6 | apply qg6 | apply qh6 | refine qi6 ?_ GE164.out) | exact HB.out)) hb)
                  clear HO174
                  clear BK164
                  clear HB
                  have HO174 := n0_
                  have HO178 := n1_
                  have BK164 := n2_
                  have HB := n3_
                  clear n0_ n1_ n2_ n3_
                  (try clear hb)
                  (try clear hb2)
                  (try clear hk)
                  (try clear hi)
                  (try clear ho0)
                  obtain ⟨Ao22, co22, eo22⟩ := Kd.R_slice HO178.out
                  (first | subst eo22 | (injection eo22 with f1_ f2_ f3_; have f4_ := f1_.symm; have f5_ := f3_.symm; clear f1_ f2_ f3_; subst f4_; subst f5_))
                  refine hK.out _ _ ⟨(blk_cell BK164.out 0).trans rfl, (blk_cell BK164.out 1).trans rfl, (blk_cell BK164.out 2).trans rfl, (blk_cell BK164.out 3).trans rfl, (blk_cell BK164.out 4).trans rfl, (blk_cell BK164.out 5).trans rfl, (blk_cell BK164.out 6).trans rfl, ((HB.out.cell (World.block_lt_of_cell? w _ hw171_0)).trans hw171_0), ((HB.out.cell (World.block_lt_of_cell? w _ hw171_1)).trans hw171_1), ((HB.out.cell (World.block_lt_of_cell? w _ hw171_2)).trans hw171_2), ((HB.out.cell (World.block_lt_of_cell? w _ hw175_0)).trans hw175_0), ((HB.out.cell (World.block_lt_of_cell? w _ hw175_1)).trans hw175_1), ((HB.out.cell (World.block_lt_of_cell? w _ hw175_2)).trans hw175_2)⟩ (fun hHeld => ?_)
                  clear hK K
                  refine norm_ (a' := ?_) ?_ ?_
                  rotate_left
                  · show Act.put _ (some 37) _ = _
                    simp only [Act.put, List.setIfInBounds_toArray, List.set_cons_zero, List.set_cons_succ, i64_w, i32_w]
                    rfl
                  refine one_ (i := 17) (N := some 38) #[true, true, true, true, true, true, true, true, true, true, true, true, true, true, true, true, true, true, false] rfl rfl (one_of HT_.out (by kernel_rfl)) (by decide) (fun K hK => ?_)
                  refine Kd.R_append_rows_step (Kd.int .u8) (w0 := w) w.heap.size (by rfl) (.tmp 30) (.tmp 37) 26 5 (.int .u8 0) 1 rfl Try.underlying26 info5 rfl (by decide) (by omega) v173 y172 t176 _ _ _ (fun k_ => some k_ ≠ (.slice Ao22 t176.length co22 : Value).ownBlock) (fun _ => False) rfl rfl ?aO ?aR (fun _ _ h => h) (fun _ h => h.elim) ?aF ?aB ?aS ?aL ?_
                  (case aR => repeat (first | exact (Kd.R_reads' HO178.out).2.2 | (with_reducible refine Kd.C_alloc ?_ _) | (with_reducible refine Kd.C_drewN ?_ _) | (with_reducible refine Kd.C_drew ?_)))
                  (case aB => exact (by repeat (first | (with_reducible first | exact HB.out | apply qf6 | apply qg6 | apply qh6 | refine qi6 ?_ GE164.out) | exact HB.out)))
                  (case aF => exact (fun k_ hk => Kd.fresh' (Kd.R_lt (by (with_reducible repeat (first | apply qd6 | apply qe6 | apply Kd.R_drew)); exact HO178.out)) k_ hk))
                  (case aO => exact (by (with_reducible repeat (first | apply qd6 | apply qe6 | apply Kd.R_drew)); exact Kd.R_mono HO174.out (fun _ hk => hk.2)))
                  (case aS => exact (ql6 (by repeat (first | (with_reducible first | exact HB.out | apply qf6 | apply qg6 | apply qh6 | refine qi6 ?_ GE164.out) | exact HB.out))))
                  (case aL => have := LMc15.out; omega)
                  intro v180 w21 ho hb hg hat
                  rw [← Ny179.out] at ho
                  have n0_ := qj6 (blk_grown (g := gb164) (o := .cells #[.bool false, .int .i64 a0_1, .int .i64 a0_2, .int .i64 a0_3, .int .i64 a0_4, .string a0_5, .slice (some ad171) l0_6.length c0_6] 60 (0, 0)) (by (with_reducible repeat (first | apply qa6 | apply qb6 | apply qc6)); exact BK164.out) hg (Kd.R_ne HO174.out BK164.out (by decide)))
                  have n1_ := qj6 (Kd.R_after (ok := (fun _ => True)) (by (with_reducible repeat (first | apply qd6 | apply qe6 | apply Kd.R_drew)); exact HO178.out) hg hat)
                  have n2_ := qj6 (hb)
                  have n3_ := qj6 (ho)
                  clear BK164
                  clear HO178
                  clear HB
                  clear HO174
                  have BK164 := n0_
                  have HO178 := n1_
                  have HB := n2_
                  have HO181 := n3_
                  clear n0_ n1_ n2_ n3_
                  clear ho hb hg hat
                  refine hK.out _ _ ⟨(blk_cell BK164.out 0).trans rfl, (blk_cell BK164.out 1).trans rfl, (blk_cell BK164.out 2).trans rfl, (blk_cell BK164.out 3).trans rfl, (blk_cell BK164.out 4).trans rfl, (blk_cell BK164.out 5).trans rfl, (blk_cell BK164.out 6).trans rfl, ((HB.out.cell (World.block_lt_of_cell? w _ hw171_0)).trans hw171_0), ((HB.out.cell (World.block_lt_of_cell? w _ hw171_1)).trans hw171_1), ((HB.out.cell (World.block_lt_of_cell? w _ hw171_2)).trans hw171_2), ((HB.out.cell (World.block_lt_of_cell? w _ hw175_0)).trans hw175_0), ((HB.out.cell (World.block_lt_of_cell? w _ hw175_1)).trans hw175_1), ((HB.out.cell (World.block_lt_of_cell? w _ hw175_2)).trans hw175_2)⟩ (fun hHeld => ?_)
                  clear hK K
                  refine norm_ (a' := ?_) ?_ ?_
                  rotate_left
                  · show Act.put _ (some 38) _ = _
                    simp only [Act.put, List.setIfInBounds_toArray, List.set_cons_zero, List.set_cons_succ, i64_w, i32_w]
                    rfl
                  refine pure_ (i := 18) (N := some 3) (v := ?_) (a' := ?_) #[true, true, true, true, true, true, true, true, true, true, true, true, true, true, true, true, true, true, true] rfl rfl (any_of HT_.out (by kernel_rfl)) (fun _ _ _ h => h) (Or.inl ⟨by rfl, ?_⟩) ?_ ?_
                  rotate_left
                  · intro w'
                    go_simp
                    with_reducible rfl
                  rotate_left
                  · simp only [Act.put, List.setIfInBounds_toArray, List.set_cons_zero, List.set_cons_succ, i64_w, i32_w]
                    rfl
                  refine done_ (done_of HT_.out (by kernel_rfl)) ?_
                  have hcz23_0 : w21.cell? ⟨gb164, 0, none⟩ = some (.bool false) := (blk_cell BK164.out 0).trans rfl
                  have hcz23_1 : w21.cell? ⟨gb164, 1, none⟩ = some (.int .i64 a0_1) := (blk_cell BK164.out 1).trans rfl
                  have hcz23_2 : w21.cell? ⟨gb164, 2, none⟩ = some (.int .i64 a0_2) := (blk_cell BK164.out 2).trans rfl
                  have hcz23_3 : w21.cell? ⟨gb164, 3, none⟩ = some (.int .i64 a0_3) := (blk_cell BK164.out 3).trans rfl
                  have hcz23_4 : w21.cell? ⟨gb164, 4, none⟩ = some (.int .i64 a0_4) := (blk_cell BK164.out 4).trans rfl
                  have hcz23_5 : w21.cell? ⟨gb164, 5, none⟩ = some (.string a0_5) := (blk_cell BK164.out 5).trans rfl
                  have hcz23_6 : w21.cell? ⟨gb164, 6, none⟩ = some (.slice (some ad171) l0_6.length c0_6) := (blk_cell BK164.out 6).trans rfl
                  have hfz23_0 := blk_frozen BK164.out 0
                  have hfz23_1 := blk_frozen BK164.out 1
                  have hfz23_2 := blk_frozen BK164.out 2
                  have hfz23_3 := blk_frozen BK164.out 3
                  have hfz23_4 := blk_frozen BK164.out 4
                  have hfz23_5 := blk_frozen BK164.out 5
                  have hfz23_6 := blk_frozen BK164.out 6
                  have p182 : 0 ≤ (x4_1 : Int) := of_decide_eq_true (by first | (with_reducible assumption) | assumption)
                  have q182 : x4_1 < (l0_6.length : Int) := of_decide_eq_true (by first | (with_reducible assumption) | assumption)
                  obtain ⟨ad182, e182, hx182_0, hx182_1, hx182_2⟩ := at_T137 HR0_6.out x4_1 p182 q182
                  obtain rfl : ad171 = ad182 := (by injection e182)
                  replace hx182_0 := (HB.out.cell (World.block_lt_of_cell? w _ hx182_0)).trans hx182_0
                  replace hx182_1 := (HB.out.cell (World.block_lt_of_cell? w _ hx182_1)).trans hx182_1
                  replace hx182_2 := (HB.out.cell (World.block_lt_of_cell? w _ hx182_2)).trans hx182_2
                  replace p182 := eq_true p182
                  replace q182 := eq_true q182
                  try go_wp2_with (first | (at_builtin; refine R_append_str (w0 := w) w.heap.size rfl (.tmp 39) _ 26 9 5 rfl Try.underlying26 Try.underlying9 info5 v180 y179 ((rd_T137 l0_6 x4_1).f2) (fun k_ => some k_ ≠ (.slice Ao22 t176.length co22 : Value).ownBlock) rfl rfl ?aO ?aF ?aB ?aS ?aL ?_; (case aB => exact (by repeat (first | (with_reducible first | exact HB.out | apply qf6 | apply qg6 | apply qh6 | refine qi6 ?_ GE164.out) | exact HB.out))); (case aF => exact (fun k_ hk => Kd.fresh' (Kd.R_lt (by (with_reducible repeat (first | apply qd6 | apply qe6 | apply Kd.R_drew)); exact HO178.out)) k_ hk)); (case aO => exact (by (with_reducible repeat (first | apply qd6 | apply qe6 | apply Kd.R_drew)); exact HO181.out)); (case aS => exact (ql6 (by repeat (first | (with_reducible first | exact HB.out | apply qf6 | apply qg6 | apply qh6 | refine qi6 ?_ GE164.out) | exact HB.out)))); (case aL => have := LMc16.out; omega); intro v184 w24 ho hb hg hat; rw [← Ny183.out] at ho; have n0_ := qj6 (blk_grown (g := gb164) (o := .cells #[.bool false, .int .i64 a0_1, .int .i64 a0_2, .int .i64 a0_3, .int .i64 a0_4, .string a0_5, .slice (some ad171) l0_6.length c0_6] 60 (0, 0)) (by (with_reducible repeat (first | apply qa6 | apply qb6 | apply qc6)); exact BK164.out) hg (Kd.R_ne HO181.out BK164.out (by decide))); have n1_ := qj6 (Kd.R_after (ok := (fun _ => True)) (by (with_reducible repeat (first | apply qd6 | apply qe6 | apply Kd.R_drew)); exact HO178.out) hg hat); have n2_ := qj6 (hb); have n3_ := qj6 (ho); clear BK164; clear HO178; clear HB; clear HO181; have BK164 := n0_; have HO178 := n1_; have HB := n2_; have HO185 := n3_; clear n0_ n1_ n2_ n3_; clear ho hb hg hat))
                  go_roundg k1
                  case measure => have := HK1.out; omega
                  case rel => exact ⟨(y183), (wrap64 (x4_1 + 1)), (by first | rfl | (simp; done) | (simp [*]; done)), H', ⟨by have := HK1.out; omega⟩, ⟨by (with_reducible repeat (first | apply qd6 | apply qe6 | apply Kd.R_drew)); exact Kd.R_mono HO185.out (fun _ hk => trivial)⟩, ⟨by (with_reducible repeat (first | apply qa6 | apply qb6 | apply qc6)); exact BK164.out⟩, ⟨by repeat (first | (with_reducible first | exact HB.out | apply qf6 | apply qg6 | apply qh6 | refine qi6 ?_ GE164.out) | exact HB.out)⟩⟩
                · rw [if_neg c16] at H
                  exact absurd H (by simp)
              · rw [if_neg c15] at H
                exact absurd H (by simp)
            · rw [if_neg c13] at H
              exact absurd H (by simp)
          · rw [if_neg c12] at H
            exact absurd H (by simp)
        · rw [if_neg c11] at H
          have c11b0 : decide (x4_1 < (l0_6.length : Int)) = false := decide_eq_false c11
          clear c11
          replace H := Option.bind_eq_some_iff.mp H
          obtain ⟨t186, A250, H⟩ := H
          replace H : (if x3_1.length + t186.length < 140737488355328 then (some (x3_1 ++ t186)) else (none)) = some r := H
          have A25 := qj6 A250
          clear A250
          by_cases c26 : x3_1.length + t186.length < 140737488355328
          · rw [if_pos c26] at H
            have LMc26 := qj6 c26
            clear c26
            obtain ⟨y189, hy189⟩ : ∃ y_ : List Int, y_ = (x3_1 ++ t186) := ⟨_, rfl⟩
            replace H : (some y189) = some r := by first | (rw [hy189]; with_reducible exact H) | (have H2_ := (Option.bind_some _ _).symm.trans H; rw [hy189]; with_reducible exact H2_) | (have H2_ := (Option.bind_some _ _).symm.trans H; with_reducible exact H2_) | with_reducible exact H | (rw [hy189]; exact H) | exact H
            have Ny189 := qj6 hy189
            clear hy189
            obtain rfl := Option.some.inj H
            have hcz27_0 : wr.cell? ⟨gb164, 0, none⟩ = some (.bool false) := (blk_cell BK164.out 0).trans rfl
            have hcz27_1 : wr.cell? ⟨gb164, 1, none⟩ = some (.int .i64 a0_1) := (blk_cell BK164.out 1).trans rfl
            have hcz27_2 : wr.cell? ⟨gb164, 2, none⟩ = some (.int .i64 a0_2) := (blk_cell BK164.out 2).trans rfl
            have hcz27_3 : wr.cell? ⟨gb164, 3, none⟩ = some (.int .i64 a0_3) := (blk_cell BK164.out 3).trans rfl
            have hcz27_4 : wr.cell? ⟨gb164, 4, none⟩ = some (.int .i64 a0_4) := (blk_cell BK164.out 4).trans rfl
            have hcz27_5 : wr.cell? ⟨gb164, 5, none⟩ = some (.string a0_5) := (blk_cell BK164.out 5).trans rfl
            have hcz27_6 : wr.cell? ⟨gb164, 6, none⟩ = some (.slice A0_6 l0_6.length c0_6) := (blk_cell BK164.out 6).trans rfl
            have hfz27_0 := blk_frozen BK164.out 0
            have hfz27_1 := blk_frozen BK164.out 1
            have hfz27_2 := blk_frozen BK164.out 2
            have hfz27_3 := blk_frozen BK164.out 3
            have hfz27_4 := blk_frozen BK164.out 4
            have hfz27_5 := blk_frozen BK164.out 5
            have hfz27_6 := blk_frozen BK164.out 6
            go_wp2_with (first | ((with_reducible refine gate_callee (f := 75) rfl ?_); refine goesL_ (some 50) rfl rfl Try.func75 (by kernel_rfl) rfl #[.agg #[.int .i64 a0_1, .int .i64 a0_2, .int .i64 a0_3, .int .i64 a0_4, .string a0_5]] rfl (by (try simp only [List.map_toArray, List.map_cons, List.map_nil]); first | done | rfl | (simp only [List.length_drop, List.length_take]; rfl)) ?_; (with_reducible refine (spec_l02Request.calls k1 a0_1 a0_2 a0_3 a0_4 a0_5 t186 _ A25.out).mono ?_); rintro e w28 ⟨v187, rfl, ho0, hb⟩; refine ⟨_, rfl, ?_⟩; have n0_ := qj6 (Kd.R_elder' (by (with_reducible repeat (first | apply qd6 | apply qe6 | apply Kd.R_drew)); exact HO_3.out) (Kd.R_base ho0) hb); have n1_ := qj6 (Kd.R_lower (Kd.R_new' ho0 (Kd.R_lt (by (with_reducible repeat (first | apply qd6 | apply qe6 | apply Kd.R_drew)); exact HO_3.out))) (ql6 (by repeat (first | (with_reducible first | exact HB.out | apply qf6 | apply qg6 | apply qh6 | refine qi6 ?_ GE164.out) | exact HB.out)))); have n2_ := qj6 (blk_below (g := gb164) (o := .cells #[.bool false, .int .i64 a0_1, .int .i64 a0_2, .int .i64 a0_3, .int .i64 a0_4, .string a0_5, .slice A0_6 l0_6.length c0_6] 60 (0, 0)) (by (with_reducible repeat (first | apply qa6 | apply qb6 | apply qc6)); exact BK164.out) hb); have n3_ := qj6 (qk6 (by repeat (first | (with_reducible first | exact HB.out | apply qf6 | apply qg6 | apply qh6 | refine qi6 ?_ GE164.out) | exact HB.out)) hb); clear HO_3; clear BK164; clear HB; have HO_3 := n0_; have HO188 := n1_; have BK164 := n2_; have HB := n3_; clear n0_ n1_ n2_ n3_; (try clear hb); (try clear hb2); (try clear hk); (try clear hi); (try clear ho0); obtain ⟨Ao30, co30, eo30⟩ := Kd.R_slice HO188.out; subst eo30) | ((with_reducible refine gate_builtin (b := .append) (xs := #[.tmp 47, .tmp 50]) rfl ?_); at_builtin; refine Kd.R_append_rows (Kd.int .u8) (w0 := w) w.heap.size rfl (.tmp 47) (.tmp 50) 26 5 (.int .u8 0) 1 rfl Try.underlying26 info5 rfl (by decide) (by omega) u3 x3_1 t186 _ _ _ (fun k_ => some k_ ≠ (.slice Ao30 t186.length co30 : Value).ownBlock) (fun _ => False) rfl rfl ?aO ?aR (fun _ _ h => h) (fun _ h => h.elim) ?aF ?aB ?aS ?aL ?_; (case aR => repeat (first | exact (Kd.R_reads' HO188.out).2.2 | (with_reducible refine Kd.C_alloc ?_ _) | (with_reducible refine Kd.C_drewN ?_ _) | (with_reducible refine Kd.C_drew ?_))); (case aB => exact (by repeat (first | (with_reducible first | exact HB.out | apply qf6 | apply qg6 | apply qh6 | refine qi6 ?_ GE164.out) | exact HB.out))); (case aF => exact (fun k_ hk => Kd.fresh' (Kd.R_lt (by (with_reducible repeat (first | apply qd6 | apply qe6 | apply Kd.R_drew)); exact HO188.out)) k_ hk)); (case aO => exact (by (with_reducible repeat (first | apply qd6 | apply qe6 | apply Kd.R_drew)); exact Kd.R_mono HO_3.out (fun _ hk => hk.2))); (case aS => exact (ql6 (by repeat (first | (with_reducible first | exact HB.out | apply qf6 | apply qg6 | apply qh6 | refine qi6 ?_ GE164.out) | exact HB.out)))); (case aL => have := LMc26.out; omega); intro v190 w29 ho hb hg hat; rw [← Ny189.out] at ho; have n0_ := qj6 (blk_grown (g := gb164) (o := .cells #[.bool false, .int .i64 a0_1, .int .i64 a0_2, .int .i64 a0_3, .int .i64 a0_4, .string a0_5, .slice A0_6 l0_6.length c0_6] 60 (0, 0)) (by (with_reducible repeat (first | apply qa6 | apply qb6 | apply qc6)); exact BK164.out) hg (Kd.R_ne HO_3.out BK164.out (by decide))); have n1_ := qj6 (Kd.R_after (ok := (fun _ => True)) (by (with_reducible repeat (first | apply qd6 | apply qe6 | apply Kd.R_drew)); exact HO188.out) hg hat); have n2_ := qj6 (hb); have n3_ := qj6 (ho); clear BK164; clear HO188; clear HB; clear HO_3; have BK164 := n0_; have HO188 := n1_; have HB := n2_; have HO191 := n3_; clear n0_ n1_ n2_ n3_; clear ho hb hg hat))
            go_ret
            exact ⟨_, by first | rfl | (simp [errW_none, errW_some] <;> rfl) | (simp [*, errW_none, errW_some] <;> rfl), by (with_reducible repeat (first | apply qd6 | apply qe6 | apply Kd.R_drew)); exact Kd.R_mono HO191.out (fun _ hk => trivial), by repeat (first | (with_reducible first | exact HB.out | apply qf6 | apply qg6 | apply qh6 | refine qi6 ?_ GE164.out) | exact HB.out)⟩
          · rw [if_neg c26] at H
            exact absurd H (by simp)

/-! ### spec_BatchBytes: function 44 -/
def spec_BatchBytes.f (k : Nat) (a0_0 : Bool) (a0_1 : Int) (a0_2 : Int) (a0_3 : Int) (a0_4 : Int) (a0_5 : ByteArray) (l0_6 : List (S137)) : Option (List Int × Int) := (spec_l02BatchOK.f k a0_0 a0_1 a0_2 a0_3 a0_4 a0_5 l0_6).bind fun t193 => (if t193 = true then ((spec_l02Batch.f k a0_0 a0_1 a0_2 a0_3 a0_4 a0_5 l0_6).bind fun t194 => (some (t194, 0))) else (some ((([] : List Int)), 1)))
theorem spec_BatchBytes.mono : ∀ a0 a1 a2 a3 a4 a5 a6 k, LeO (spec_BatchBytes.f k a0 a1 a2 a3 a4 a5 a6) (spec_BatchBytes.f (k + 1) a0 a1 a2 a3 a4 a5 a6) := by
  intro a0 a1 a2 a3 a4 a5 a6 k
  unfold spec_BatchBytes.f
  repeat' first
      | (with_reducible exact spec_l02Batch.mono _ _ _ _ _ _ _ _)
      | (with_reducible exact spec_l02BatchOK.mono _ _ _ _ _ _ _ _)
      | (with_reducible exact LeO.refl _)
      | (with_reducible exact LeO.none _)
      | (with_reducible refine LeO.ite ?_ ?_)
      | (with_reducible refine LeO.bind ?_ (fun _ => ?_))
      | exact spec_l02Batch.mono _ _ _ _ _ _ _ _
      | exact spec_l02BatchOK.mono _ _ _ _ _ _ _ _
      | exact LeO.none _
      | refine LeO.ite ?_ ?_
      | refine LeO.bind ?_ (fun _ => ?_)
set_option maxHeartbeats 8000000 in
set_option maxRecDepth 100000 in
theorem spec_BatchBytes.calls (k : Nat) (a0_0 : Bool) (a0_1 : Int) (a0_2 : Int) (a0_3 : Int) (a0_4 : Int) (a0_5 : ByteArray) (A0_6 : Option Addr) (c0_6 : Nat) (l0_6 : List (S137)) (r1 : List Int) (r2 : Int) (w : World) (hr0_6 : Kd.C k137 w A0_6 l0_6.length l0_6) (hc0_6 : l0_6.length ≤ c0_6) (h : spec_BatchBytes.f k a0_0 a0_1 a0_2 a0_3 a0_4 a0_5 l0_6 = some (r1, r2)) :
    Calls Try.prog 44 #[.agg #[.bool a0_0, .int .i64 a0_1, .int .i64 a0_2, .int .i64 a0_3, .int .i64 a0_4, .string a0_5, .slice A0_6 l0_6.length c0_6]] w fun e w' => ∃ v0_ : Value, e = .returned (.tuple #[v0_, .int .i64 r2]) ∧ Kd.R (Kd.int .u8) 5 w' w.heap.size (fun _ => True) v0_ r1 ∧ Below w.heap.size w w' := by
  have hu60 := Try.underlying60
  have HR0_6 := qj6 hr0_6
  have HC0_6 := qj6 hc0_6
  clear hr0_6 hc0_6
  have HB := qj6 (Below.refl w.heap.size w)
  have H : ((spec_l02BatchOK.f k a0_0 a0_1 a0_2 a0_3 a0_4 a0_5 l0_6).bind fun t193 => (if t193 = true then ((spec_l02Batch.f k a0_0 a0_1 a0_2 a0_3 a0_4 a0_5 l0_6).bind fun t194 => (some (t194, 0))) else (some ((([] : List Int)), 1)))) = some (r1, r2) := h
  clear h
  replace H := Option.bind_eq_some_iff.mp H
  obtain ⟨t193, A20, H⟩ := H
  replace H : (if t193 = true then ((spec_l02Batch.f k a0_0 a0_1 a0_2 a0_3 a0_4 a0_5 l0_6).bind fun t194 => (some (t194, 0))) else (some ((([] : List Int)), 1))) = some (r1, r2) := H
  have A2 := qj6 A20
  clear A20
  by_cases c3 : t193 = true
  · subst c3
    have H1 : ((spec_l02Batch.f k a0_0 a0_1 a0_2 a0_3 a0_4 a0_5 l0_6).bind fun t194 => (some (t194, 0))) = some (r1, r2) := by rw [if_pos rfl] at H; exact H
    clear H
    have H := H1
    clear H1
    replace H := Option.bind_eq_some_iff.mp H
    obtain ⟨t194, A40, H⟩ := H
    replace H : (some (t194, 0)) = some (r1, r2) := H
    have A4 := qj6 A40
    clear A40
    simp only [Option.some.injEq, Prod.mk.injEq] at H
    obtain ⟨rfl, rfl⟩ := H
    go_enter Try.func44, Try.ntmps44
    go_wp2_with (first | ((with_reducible refine gate_dst (N := 1) rfl ?_); refine box_event ?hg (N := 1) ?hd (cs := #[.bool a0_0, .int .i64 a0_1, .int .i64 a0_2, .int .i64 a0_3, .int .i64 a0_4, .string a0_5, .slice A0_6 l0_6.length c0_6]) (t := 60) ?hr ?_; (case hd => rfl); (case hg => rfl); (case hr => first | (go_simp; done) | (go_simp; rfl)); intro gb192 hg w5 hbox hb; have n0_ := qj6 (qk6 (by repeat (first | (with_reducible first | exact HB.out | apply qf6 | apply qg6 | apply qh6) | exact HB.out)) hb); have n1_ := qj6 (hbox); have n2_ := qj6 ((by rw [hg]; exact (ql6 (by repeat (first | (with_reducible first | exact HB.out | apply qf6 | apply qg6 | apply qh6) | exact HB.out))) : w.heap.size ≤ gb192)); have n3_ := qj6 ((by rw [hg]; exact (ql6 (by repeat (first | (with_reducible first | exact HB.out | apply qf6 | apply qg6 | apply qh6) | exact HB.out))) : w.heap.size ≤ gb192)); clear HB; have HB := n0_; have BK192 := n1_; have GW192 := n2_; have GE192 := n3_; clear n0_ n1_ n2_ n3_; clear hb hbox hg; have hcz6_0 : w5.cell? ⟨gb192, 0, none⟩ = some (.bool a0_0) := (blk_cell BK192.out 0).trans rfl; have hcz6_1 : w5.cell? ⟨gb192, 1, none⟩ = some (.int .i64 a0_1) := (blk_cell BK192.out 1).trans rfl; have hcz6_2 : w5.cell? ⟨gb192, 2, none⟩ = some (.int .i64 a0_2) := (blk_cell BK192.out 2).trans rfl; have hcz6_3 : w5.cell? ⟨gb192, 3, none⟩ = some (.int .i64 a0_3) := (blk_cell BK192.out 3).trans rfl; have hcz6_4 : w5.cell? ⟨gb192, 4, none⟩ = some (.int .i64 a0_4) := (blk_cell BK192.out 4).trans rfl; have hcz6_5 : w5.cell? ⟨gb192, 5, none⟩ = some (.string a0_5) := (blk_cell BK192.out 5).trans rfl; have hcz6_6 : w5.cell? ⟨gb192, 6, none⟩ = some (.slice A0_6 l0_6.length c0_6) := (blk_cell BK192.out 6).trans rfl; have hfz6_0 := blk_frozen BK192.out 0; have hfz6_1 := blk_frozen BK192.out 1; have hfz6_2 := blk_frozen BK192.out 2; have hfz6_3 := blk_frozen BK192.out 3; have hfz6_4 := blk_frozen BK192.out 4; have hfz6_5 := blk_frozen BK192.out 5; have hfz6_6 := blk_frozen BK192.out 6) | ((with_reducible refine gate_callee (f := 83) rfl ?_); refine goesL_ (some 5) rfl rfl Try.func83 (by kernel_rfl) rfl #[.agg #[.bool a0_0, .int .i64 a0_1, .int .i64 a0_2, .int .i64 a0_3, .int .i64 a0_4, .string a0_5, .slice A0_6 l0_6.length c0_6]] rfl (by (try simp only [List.map_toArray, List.map_cons, List.map_nil]); first | done | rfl | (simp only [List.length_drop, List.length_take]; rfl)) ?_; (with_reducible refine (spec_l02BatchOK.calls k a0_0 a0_1 a0_2 a0_3 a0_4 a0_5 _ _ l0_6 true _ ?side1 ?side2 A2.out).mono ?_); (case side1 => repeat (first | exact (Kd.C_below HR0_6.out HB.out) | (with_reducible refine Kd.C_alloc ?_ _) | (with_reducible refine Kd.C_drewN ?_ _) | (with_reducible refine Kd.C_drew ?_))); (case side2 => exact HC0_6.out); rintro e w7 ⟨rfl, hb⟩; refine ⟨_, rfl, ?_⟩; have n0_ := qj6 (blk_below (g := gb192) (o := .cells #[.bool a0_0, .int .i64 a0_1, .int .i64 a0_2, .int .i64 a0_3, .int .i64 a0_4, .string a0_5, .slice A0_6 l0_6.length c0_6] 60 (0, 0)) (by (with_reducible repeat (first | apply qa6 | apply qb6 | apply qc6)); exact BK192.out) hb); have n1_ := qj6 (qk6 (by repeat (first | (with_reducible first | exact HB.out | apply qf6 | apply qg6 | apply qh6 | refine qi6 ?_ GE192.out) | exact HB.out)) hb); clear BK192; clear HB; have BK192 := n0_; have HB := n1_; clear n0_ n1_; (try clear hb); (try clear hb2); (try clear hk); (try clear hi); have hcz8_0 : w7.cell? ⟨gb192, 0, none⟩ = some (.bool a0_0) := (blk_cell BK192.out 0).trans rfl; have hcz8_1 : w7.cell? ⟨gb192, 1, none⟩ = some (.int .i64 a0_1) := (blk_cell BK192.out 1).trans rfl; have hcz8_2 : w7.cell? ⟨gb192, 2, none⟩ = some (.int .i64 a0_2) := (blk_cell BK192.out 2).trans rfl; have hcz8_3 : w7.cell? ⟨gb192, 3, none⟩ = some (.int .i64 a0_3) := (blk_cell BK192.out 3).trans rfl; have hcz8_4 : w7.cell? ⟨gb192, 4, none⟩ = some (.int .i64 a0_4) := (blk_cell BK192.out 4).trans rfl; have hcz8_5 : w7.cell? ⟨gb192, 5, none⟩ = some (.string a0_5) := (blk_cell BK192.out 5).trans rfl; have hcz8_6 : w7.cell? ⟨gb192, 6, none⟩ = some (.slice A0_6 l0_6.length c0_6) := (blk_cell BK192.out 6).trans rfl; have hfz8_0 := blk_frozen BK192.out 0; have hfz8_1 := blk_frozen BK192.out 1; have hfz8_2 := blk_frozen BK192.out 2; have hfz8_3 := blk_frozen BK192.out 3; have hfz8_4 := blk_frozen BK192.out 4; have hfz8_5 := blk_frozen BK192.out 5; have hfz8_6 := blk_frozen BK192.out 6) | ((with_reducible refine gate_callee (f := 84) rfl ?_); refine goesL_ (some 9) rfl rfl Try.func84 (by kernel_rfl) rfl #[.agg #[.bool a0_0, .int .i64 a0_1, .int .i64 a0_2, .int .i64 a0_3, .int .i64 a0_4, .string a0_5, .slice A0_6 l0_6.length c0_6]] rfl (by (try simp only [List.map_toArray, List.map_cons, List.map_nil]); first | done | rfl | (simp only [List.length_drop, List.length_take]; rfl)) ?_; (with_reducible refine (spec_l02Batch.calls k a0_0 a0_1 a0_2 a0_3 a0_4 a0_5 _ _ l0_6 t194 _ ?side1 ?side2 A4.out).mono ?_); (case side1 => repeat (first | exact (Kd.C_below HR0_6.out HB.out) | (with_reducible refine Kd.C_alloc ?_ _) | (with_reducible refine Kd.C_drewN ?_ _) | (with_reducible refine Kd.C_drew ?_))); (case side2 => exact HC0_6.out); rintro e w9 ⟨v195, rfl, ho0, hb⟩; refine ⟨_, rfl, ?_⟩; have n0_ := qj6 (Kd.R_lower ho0 (ql6 (by repeat (first | (with_reducible first | exact HB.out | apply qf6 | apply qg6 | apply qh6 | refine qi6 ?_ GE192.out) | exact HB.out)))); have n1_ := qj6 (blk_below (g := gb192) (o := .cells #[.bool a0_0, .int .i64 a0_1, .int .i64 a0_2, .int .i64 a0_3, .int .i64 a0_4, .string a0_5, .slice A0_6 l0_6.length c0_6] 60 (0, 0)) (by (with_reducible repeat (first | apply qa6 | apply qb6 | apply qc6)); exact BK192.out) hb); have n2_ := qj6 (qk6 (by repeat (first | (with_reducible first | exact HB.out | apply qf6 | apply qg6 | apply qh6 | refine qi6 ?_ GE192.out) | exact HB.out)) hb); clear BK192; clear HB; have HO196 := n0_; have BK192 := n1_; have HB := n2_; clear n0_ n1_ n2_; (try clear hb); (try clear hb2); (try clear hk); (try clear hi); (try clear ho0)))
    go_ret2
    exact ⟨_, by first | rfl | (simp [errW_none, errW_some] <;> rfl) | (simp [*, errW_none, errW_some] <;> rfl), by (with_reducible repeat (first | apply qd6 | apply qe6 | apply Kd.R_drew)); exact HO196.out, by repeat (first | (with_reducible first | exact HB.out | apply qf6 | apply qg6 | apply qh6 | refine qi6 ?_ GE192.out) | exact HB.out)⟩
  · replace c3 := Bool.eq_false_iff.mpr c3
    subst c3
    have H1 : (some ((([] : List Int)), 1)) = some (r1, r2) := by rw [if_neg (show ¬ (false = true) by decide)] at H; exact H
    clear H
    have H := H1
    clear H1
    obtain ⟨y197, hy197⟩ : ∃ y_ : List Int, y_ = (([] : List Int)) := ⟨_, rfl⟩
    replace H : (some (y197, 1)) = some (r1, r2) := by first | (rw [hy197]; with_reducible exact H) | (have H2_ := (Option.bind_some _ _).symm.trans H; rw [hy197]; with_reducible exact H2_) | (have H2_ := (Option.bind_some _ _).symm.trans H; with_reducible exact H2_) | with_reducible exact H | (rw [hy197]; exact H) | exact H
    have Ny197 := qj6 hy197
    clear hy197
    simp only [Option.some.injEq, Prod.mk.injEq] at H
    obtain ⟨rfl, rfl⟩ := H
    go_enter Try.func44, Try.ntmps44
    go_wp2_with (first | ((with_reducible refine gate_dst (N := 1) rfl ?_); refine box_event ?hg (N := 1) ?hd (cs := #[.bool a0_0, .int .i64 a0_1, .int .i64 a0_2, .int .i64 a0_3, .int .i64 a0_4, .string a0_5, .slice A0_6 l0_6.length c0_6]) (t := 60) ?hr ?_; (case hd => rfl); (case hg => rfl); (case hr => first | (go_simp; done) | (go_simp; rfl)); intro gb192 hg w10 hbox hb; have n0_ := qj6 (qk6 (by repeat (first | (with_reducible first | exact HB.out | apply qf6 | apply qg6 | apply qh6) | exact HB.out)) hb); have n1_ := qj6 (hbox); have n2_ := qj6 ((by rw [hg]; exact (ql6 (by repeat (first | (with_reducible first | exact HB.out | apply qf6 | apply qg6 | apply qh6) | exact HB.out))) : w.heap.size ≤ gb192)); have n3_ := qj6 ((by rw [hg]; exact (ql6 (by repeat (first | (with_reducible first | exact HB.out | apply qf6 | apply qg6 | apply qh6) | exact HB.out))) : w.heap.size ≤ gb192)); clear HB; have HB := n0_; have BK192 := n1_; have GW192 := n2_; have GE192 := n3_; clear n0_ n1_ n2_ n3_; clear hb hbox hg; have hcz11_0 : w10.cell? ⟨gb192, 0, none⟩ = some (.bool a0_0) := (blk_cell BK192.out 0).trans rfl; have hcz11_1 : w10.cell? ⟨gb192, 1, none⟩ = some (.int .i64 a0_1) := (blk_cell BK192.out 1).trans rfl; have hcz11_2 : w10.cell? ⟨gb192, 2, none⟩ = some (.int .i64 a0_2) := (blk_cell BK192.out 2).trans rfl; have hcz11_3 : w10.cell? ⟨gb192, 3, none⟩ = some (.int .i64 a0_3) := (blk_cell BK192.out 3).trans rfl; have hcz11_4 : w10.cell? ⟨gb192, 4, none⟩ = some (.int .i64 a0_4) := (blk_cell BK192.out 4).trans rfl; have hcz11_5 : w10.cell? ⟨gb192, 5, none⟩ = some (.string a0_5) := (blk_cell BK192.out 5).trans rfl; have hcz11_6 : w10.cell? ⟨gb192, 6, none⟩ = some (.slice A0_6 l0_6.length c0_6) := (blk_cell BK192.out 6).trans rfl; have hfz11_0 := blk_frozen BK192.out 0; have hfz11_1 := blk_frozen BK192.out 1; have hfz11_2 := blk_frozen BK192.out 2; have hfz11_3 := blk_frozen BK192.out 3; have hfz11_4 := blk_frozen BK192.out 4; have hfz11_5 := blk_frozen BK192.out 5; have hfz11_6 := blk_frozen BK192.out 6) | ((with_reducible refine gate_callee (f := 83) rfl ?_); refine goesL_ (some 5) rfl rfl Try.func83 (by kernel_rfl) rfl #[.agg #[.bool a0_0, .int .i64 a0_1, .int .i64 a0_2, .int .i64 a0_3, .int .i64 a0_4, .string a0_5, .slice A0_6 l0_6.length c0_6]] rfl (by (try simp only [List.map_toArray, List.map_cons, List.map_nil]); first | done | rfl | (simp only [List.length_drop, List.length_take]; rfl)) ?_; (with_reducible refine (spec_l02BatchOK.calls k a0_0 a0_1 a0_2 a0_3 a0_4 a0_5 _ _ l0_6 false _ ?side1 ?side2 A2.out).mono ?_); (case side1 => repeat (first | exact (Kd.C_below HR0_6.out HB.out) | (with_reducible refine Kd.C_alloc ?_ _) | (with_reducible refine Kd.C_drewN ?_ _) | (with_reducible refine Kd.C_drew ?_))); (case side2 => exact HC0_6.out); rintro e w12 ⟨rfl, hb⟩; refine ⟨_, rfl, ?_⟩; have n0_ := qj6 (blk_below (g := gb192) (o := .cells #[.bool a0_0, .int .i64 a0_1, .int .i64 a0_2, .int .i64 a0_3, .int .i64 a0_4, .string a0_5, .slice A0_6 l0_6.length c0_6] 60 (0, 0)) (by (with_reducible repeat (first | apply qa6 | apply qb6 | apply qc6)); exact BK192.out) hb); have n1_ := qj6 (qk6 (by repeat (first | (with_reducible first | exact HB.out | apply qf6 | apply qg6 | apply qh6 | refine qi6 ?_ GE192.out) | exact HB.out)) hb); clear BK192; clear HB; have BK192 := n0_; have HB := n1_; clear n0_ n1_; (try clear hb); (try clear hb2); (try clear hk); (try clear hi)) | ((with_reducible refine gate_dst (N := 7) rfl ?_); refine Kd.R_lit (Kd.int .u8) _ 5 ?hg (N := 7) ?hd (xs := ([] : List Int)) (inner := []) (ok := fun _ => True) (okp := fun _ => True) ?hr ?hp (fun _ hk => hk) trivial (Below.refl _ _) (Nat.le_refl _) (by simp) ?_; (case hd => rfl); (case hg => rfl); (case hr => first | (go_simp; done) | (go_simp; rfl)); (case hp => exact (Reps.none _ _)); intro v198 w13 ho14 hb hg_ hnew_; clear hg_ hnew_; (first | rw [← Ny197.out] at ho14 | (simp only [Int.reduceToNat] at ho14; rw [← Ny197.out] at ho14)); have n0_ := qj6 (Kd.R_lower ho14 (ql6 (by repeat (first | (with_reducible first | exact HB.out | apply qf6 | apply qg6 | apply qh6 | refine qi6 ?_ GE192.out) | exact HB.out)))); have n1_ := qj6 (blk_below (g := gb192) (o := .cells #[.bool a0_0, .int .i64 a0_1, .int .i64 a0_2, .int .i64 a0_3, .int .i64 a0_4, .string a0_5, .slice A0_6 l0_6.length c0_6] 60 (0, 0)) (by (with_reducible repeat (first | apply qa6 | apply qb6 | apply qc6)); exact BK192.out) hb); have n2_ := qj6 (qk6 (by repeat (first | (with_reducible first | exact HB.out | apply qf6 | apply qg6 | apply qh6 | refine qi6 ?_ GE192.out) | exact HB.out)) hb); clear BK192; clear HB; have HO199 := n0_; have BK192 := n1_; have HB := n2_; clear n0_ n1_ n2_; clear hb ho14))
    go_ret2
    exact ⟨_, by first | rfl | (simp [errW_none, errW_some] <;> rfl) | (simp [*, errW_none, errW_some] <;> rfl), by (with_reducible repeat (first | apply qd6 | apply qe6 | apply Kd.R_drew)); exact HO199.out, by repeat (first | (with_reducible first | exact HB.out | apply qf6 | apply qg6 | apply qh6 | refine qi6 ?_ GE192.out) | exact HB.out)⟩

/-! ### laws_toRequest: function 35 -/
def laws_toRequest.f (a0_0 : Int) (a0_1 : Int) (a0_2 : Int) (a0_3 : Int) (a0_4 : ByteArray) : Option (Int × Int × Int × Int × ByteArray) := some (a0_0, a0_1, a0_2, a0_3, a0_4)
set_option maxHeartbeats 8000000 in
set_option maxRecDepth 100000 in
theorem laws_toRequest.calls (a0_0 : Int) (a0_1 : Int) (a0_2 : Int) (a0_3 : Int) (a0_4 : ByteArray) (r1 : Int) (r2 : Int) (r3 : Int) (r4 : Int) (r5 : ByteArray) (w : World) (h : laws_toRequest.f a0_0 a0_1 a0_2 a0_3 a0_4 = some (r1, r2, r3, r4, r5)) :
    Calls Try.prog 35 #[.agg #[.int .i64 a0_0, .int .i64 a0_1, .int .i64 a0_2, .int .i64 a0_3, .string a0_4]] w fun e w' => e = .returned (.agg #[.int .i64 r1, .int .i64 r2, .int .i64 r3, .int .i64 r4, .string r5]) ∧ Below w.heap.size w w' := by
  have hu41 := Try.underlying41
  have hu44 := Try.underlying44
  have HB := qj6 (Below.refl w.heap.size w)
  have H : (some (a0_0, a0_1, a0_2, a0_3, a0_4)) = some (r1, r2, r3, r4, r5) := h
  clear h
  simp only [Option.some.injEq, Prod.mk.injEq] at H
  obtain ⟨rfl, rfl, rfl, rfl, rfl⟩ := H
  go_enter Try.func35, Try.ntmps35
  go_wp2_with (first | ((with_reducible refine gate_dst (N := 1) rfl ?_); refine box_event ?hg (N := 1) ?hd (cs := #[.int .i64 a0_0, .int .i64 a0_1, .int .i64 a0_2, .int .i64 a0_3, .string a0_4]) (t := 41) ?hr ?_; (case hd => rfl); (case hg => rfl); (case hr => first | (go_simp; done) | (go_simp; rfl)); intro gb200 hg w2 hbox hb; have n0_ := qj6 (qk6 (by repeat (first | (with_reducible first | exact HB.out | apply qf6 | apply qg6 | apply qh6) | exact HB.out)) hb); have n1_ := qj6 (hbox); have n2_ := qj6 ((by rw [hg]; exact (ql6 (by repeat (first | (with_reducible first | exact HB.out | apply qf6 | apply qg6 | apply qh6) | exact HB.out))) : w.heap.size ≤ gb200)); have n3_ := qj6 ((by rw [hg]; exact (ql6 (by repeat (first | (with_reducible first | exact HB.out | apply qf6 | apply qg6 | apply qh6) | exact HB.out))) : w.heap.size ≤ gb200)); clear HB; have HB := n0_; have BK200 := n1_; have GW200 := n2_; have GE200 := n3_; clear n0_ n1_ n2_ n3_; clear hb hbox hg) | ((with_reducible refine gate_dst (N := 2) rfl ?_); refine box_event ?hg (N := 2) ?hd (cs := #[.int .i64 0, .int .i64 0, .int .i64 0, .int .i64 0, .string (⟨#[]⟩ : ByteArray)]) (t := 44) ?hr ?_; (case hd => rfl); (case hg => rfl); (case hr => first | (go_simp; done) | (go_simp; rfl)); intro gb201 hg w3 hbox hb; have n0_ := qj6 (blk_below (g := gb200) (o := .cells #[.int .i64 a0_0, .int .i64 a0_1, .int .i64 a0_2, .int .i64 a0_3, .string a0_4] 41 (0, 0)) (by (with_reducible repeat (first | apply qa6 | apply qb6 | apply qc6)); exact BK200.out) hb); have n1_ := qj6 (qk6 (by repeat (first | (with_reducible first | exact HB.out | apply qf6 | apply qg6 | apply qh6 | refine qi6 ?_ GE200.out) | exact HB.out)) hb); have n2_ := qj6 (hbox); have n3_ := qj6 ((by rw [hg]; exact (ql6 (by repeat (first | (with_reducible first | exact HB.out | apply qf6 | apply qg6 | apply qh6 | refine qi6 ?_ GE200.out) | exact HB.out))) : w.heap.size ≤ gb201)); have n4_ := qj6 ((by rw [hg]; exact (ql6 (by repeat (first | (with_reducible first | exact HB.out | apply qf6 | apply qg6 | apply qh6 | refine qi6 ?_ GE200.out) | exact HB.out))) : w.heap.size ≤ gb201)); have n5_ := qj6 ((by rw [hg]; exact Nat.ne_of_lt (blk_lt (g := gb200) (o := .cells #[.int .i64 a0_0, .int .i64 a0_1, .int .i64 a0_2, .int .i64 a0_3, .string a0_4] 41 (0, 0)) (by (with_reducible repeat (first | apply qa6 | apply qb6 | apply qc6)); exact BK200.out)) : gb200 ≠ gb201)); have n6_ := qj6 ((by rw [hg]; exact Nat.ne_of_gt (blk_lt (g := gb200) (o := .cells #[.int .i64 a0_0, .int .i64 a0_1, .int .i64 a0_2, .int .i64 a0_3, .string a0_4] 41 (0, 0)) (by (with_reducible repeat (first | apply qa6 | apply qb6 | apply qc6)); exact BK200.out)) : gb201 ≠ gb200)); clear BK200; clear HB; have BK200 := n0_; have HB := n1_; have BK201 := n2_; have GW201 := n3_; have GE201 := n4_; have NB200_201 := n5_; have NB201_200 := n6_; clear n0_ n1_ n2_ n3_ n4_ n5_ n6_; clear hb hbox hg) | ((with_reducible refine gate_dst (N := 3) rfl ?_); refine box_event ?hg (N := 3) ?hd (cs := #[.int .i64 0, .int .i64 0, .int .i64 0, .int .i64 0, .string (⟨#[]⟩ : ByteArray)]) (t := 44) ?hr ?_; (case hd => rfl); (case hg => rfl); (case hr => first | (go_simp; done) | (go_simp; rfl)); intro gb202 hg w4 hbox hb; have n0_ := qj6 (blk_below (g := gb200) (o := .cells #[.int .i64 a0_0, .int .i64 a0_1, .int .i64 a0_2, .int .i64 a0_3, .string a0_4] 41 (0, 0)) (by (with_reducible repeat (first | apply qa6 | apply qb6 | apply qc6)); exact BK200.out) hb); have n1_ := qj6 (blk_below (g := gb201) (o := .cells #[.int .i64 0, .int .i64 0, .int .i64 0, .int .i64 0, .string (⟨#[]⟩ : ByteArray)] 44 (0, 0)) (by (with_reducible repeat (first | apply qa6 | apply qb6 | apply qc6)); exact BK201.out) hb); have n2_ := qj6 (qk6 (by repeat (first | (with_reducible first | exact HB.out | apply qf6 | apply qg6 | apply qh6 | refine qi6 ?_ GE200.out | refine qi6 ?_ GE201.out) | exact HB.out)) hb); have n3_ := qj6 (hbox); have n4_ := qj6 ((by rw [hg]; exact (ql6 (by repeat (first | (with_reducible first | exact HB.out | apply qf6 | apply qg6 | apply qh6 | refine qi6 ?_ GE200.out | refine qi6 ?_ GE201.out) | exact HB.out))) : w.heap.size ≤ gb202)); have n5_ := qj6 ((by rw [hg]; exact (ql6 (by repeat (first | (with_reducible first | exact HB.out | apply qf6 | apply qg6 | apply qh6 | refine qi6 ?_ GE200.out | refine qi6 ?_ GE201.out) | exact HB.out))) : w.heap.size ≤ gb202)); have n6_ := qj6 ((by rw [hg]; exact Nat.ne_of_lt (blk_lt (g := gb200) (o := .cells #[.int .i64 a0_0, .int .i64 a0_1, .int .i64 a0_2, .int .i64 a0_3, .string a0_4] 41 (0, 0)) (by (with_reducible repeat (first | apply qa6 | apply qb6 | apply qc6)); exact BK200.out)) : gb200 ≠ gb202)); have n7_ := qj6 ((by rw [hg]; exact Nat.ne_of_gt (blk_lt (g := gb200) (o := .cells #[.int .i64 a0_0, .int .i64 a0_1, .int .i64 a0_2, .int .i64 a0_3, .string a0_4] 41 (0, 0)) (by (with_reducible repeat (first | apply qa6 | apply qb6 | apply qc6)); exact BK200.out)) : gb202 ≠ gb200)); have n8_ := qj6 ((by rw [hg]; exact Nat.ne_of_lt (blk_lt (g := gb201) (o := .cells #[.int .i64 0, .int .i64 0, .int .i64 0, .int .i64 0, .string (⟨#[]⟩ : ByteArray)] 44 (0, 0)) (by (with_reducible repeat (first | apply qa6 | apply qb6 | apply qc6)); exact BK201.out)) : gb201 ≠ gb202)); have n9_ := qj6 ((by rw [hg]; exact Nat.ne_of_gt (blk_lt (g := gb201) (o := .cells #[.int .i64 0, .int .i64 0, .int .i64 0, .int .i64 0, .string (⟨#[]⟩ : ByteArray)] 44 (0, 0)) (by (with_reducible repeat (first | apply qa6 | apply qb6 | apply qc6)); exact BK201.out)) : gb202 ≠ gb201)); clear BK200; clear BK201; clear HB; have BK200 := n0_; have BK201 := n1_; have HB := n2_; have BK202 := n3_; have GW202 := n4_; have GE202 := n5_; have NB200_202 := n6_; have NB202_200 := n7_; have NB201_202 := n8_; have NB202_201 := n9_; clear n0_ n1_ n2_ n3_ n4_ n5_ n6_ n7_ n8_ n9_; clear hb hbox hg; have hnb5 := NB200_201.out; have hnc5 := NB201_200.out; have hnb6 := NB200_202.out; have hnc6 := NB202_200.out; have hcz7_0 : w4.cell? ⟨gb200, 0, none⟩ = some (.int .i64 a0_0) := (blk_cell BK200.out 0).trans rfl; have hcz7_1 : w4.cell? ⟨gb200, 1, none⟩ = some (.int .i64 a0_1) := (blk_cell BK200.out 1).trans rfl; have hcz7_2 : w4.cell? ⟨gb200, 2, none⟩ = some (.int .i64 a0_2) := (blk_cell BK200.out 2).trans rfl; have hcz7_3 : w4.cell? ⟨gb200, 3, none⟩ = some (.int .i64 a0_3) := (blk_cell BK200.out 3).trans rfl; have hcz7_4 : w4.cell? ⟨gb200, 4, none⟩ = some (.string a0_4) := (blk_cell BK200.out 4).trans rfl; have hfz7_0 := blk_frozen BK200.out 0; have hfz7_1 := blk_frozen BK200.out 1; have hfz7_2 := blk_frozen BK200.out 2; have hfz7_3 := blk_frozen BK200.out 3; have hfz7_4 := blk_frozen BK200.out 4; have hnb8 := NB202_201.out; have hnc8 := NB201_202.out; have hcz9_0 : w4.cell? ⟨gb202, 0, none⟩ = some (.int .i64 0) := (blk_cell BK202.out 0).trans rfl; have hcz9_1 : w4.cell? ⟨gb202, 1, none⟩ = some (.int .i64 0) := (blk_cell BK202.out 1).trans rfl; have hcz9_2 : w4.cell? ⟨gb202, 2, none⟩ = some (.int .i64 0) := (blk_cell BK202.out 2).trans rfl; have hcz9_3 : w4.cell? ⟨gb202, 3, none⟩ = some (.int .i64 0) := (blk_cell BK202.out 3).trans rfl; have hcz9_4 : w4.cell? ⟨gb202, 4, none⟩ = some (.string (⟨#[]⟩ : ByteArray)) := (blk_cell BK202.out 4).trans rfl; have hfz9_0 := blk_frozen BK202.out 0; have hfz9_1 := blk_frozen BK202.out 1; have hfz9_2 := blk_frozen BK202.out 2; have hfz9_3 := blk_frozen BK202.out 3; have hfz9_4 := blk_frozen BK202.out 4; have hcz10_0 : w4.cell? ⟨gb201, 0, none⟩ = some (.int .i64 0) := (blk_cell BK201.out 0).trans rfl; have hcz10_1 : w4.cell? ⟨gb201, 1, none⟩ = some (.int .i64 0) := (blk_cell BK201.out 1).trans rfl; have hcz10_2 : w4.cell? ⟨gb201, 2, none⟩ = some (.int .i64 0) := (blk_cell BK201.out 2).trans rfl; have hcz10_3 : w4.cell? ⟨gb201, 3, none⟩ = some (.int .i64 0) := (blk_cell BK201.out 3).trans rfl; have hcz10_4 : w4.cell? ⟨gb201, 4, none⟩ = some (.string (⟨#[]⟩ : ByteArray)) := (blk_cell BK201.out 4).trans rfl; have hfz10_0 := blk_frozen BK201.out 0; have hfz10_1 := blk_frozen BK201.out 1; have hfz10_2 := blk_frozen BK201.out 2; have hfz10_3 := blk_frozen BK201.out 3; have hfz10_4 := blk_frozen BK201.out 4))
  refine bodyPost_ret (results_cell_row rfl _ _ gb201 44 #[.int .i64 a0_0, .int .i64 a0_1, .int .i64 a0_2, .int .i64 a0_3, .string a0_4] (0, 0) _ rfl (by (with_reducible repeat (first | apply qa6 | apply qb6 | apply qc6)); refine blk_put (cs := #[.int .i64 a0_0, .int .i64 a0_1, .int .i64 a0_2, .int .i64 a0_3, .string (⟨#[]⟩ : ByteArray)]) ?_ 4 _ rfl; (with_reducible repeat (first | apply qa6 | apply qb6 | apply qc6)); refine blk_put (cs := #[.int .i64 a0_0, .int .i64 a0_1, .int .i64 a0_2, .int .i64 0, .string (⟨#[]⟩ : ByteArray)]) ?_ 3 _ rfl; (with_reducible repeat (first | apply qa6 | apply qb6 | apply qc6)); refine blk_put (cs := #[.int .i64 a0_0, .int .i64 a0_1, .int .i64 0, .int .i64 0, .string (⟨#[]⟩ : ByteArray)]) ?_ 2 _ rfl; (with_reducible repeat (first | apply qa6 | apply qb6 | apply qc6)); refine blk_put (cs := #[.int .i64 a0_0, .int .i64 0, .int .i64 0, .int .i64 0, .string (⟨#[]⟩ : ByteArray)]) ?_ 1 _ rfl; (with_reducible repeat (first | apply qa6 | apply qb6 | apply qc6)); refine blk_put (cs := #[.int .i64 0, .int .i64 0, .int .i64 0, .int .i64 0, .string (⟨#[]⟩ : ByteArray)]) ?_ 0 _ rfl; (with_reducible repeat (first | apply qa6 | apply qb6 | apply qc6)); refine blk_far ?_ NB201_202.out _; (with_reducible repeat (first | apply qa6 | apply qb6 | apply qc6)); refine blk_far ?_ NB201_202.out _; (with_reducible repeat (first | apply qa6 | apply qb6 | apply qc6)); refine blk_far ?_ NB201_202.out _; (with_reducible repeat (first | apply qa6 | apply qb6 | apply qc6)); refine blk_far ?_ NB201_202.out _; (with_reducible repeat (first | apply qa6 | apply qb6 | apply qc6)); refine blk_far ?_ NB201_202.out _; (with_reducible repeat (first | apply qa6 | apply qb6 | apply qc6)); exact BK201.out) Try.underlying44 rfl (by kernel_rfl)) rfl ?_
  exact ⟨by first | rfl | (simp [errW_none, errW_some] <;> rfl) | (simp [*, errW_none, errW_some] <;> rfl), by repeat (first | (with_reducible first | exact HB.out | apply qf6 | apply qg6 | apply qh6 | refine qi6 ?_ GE200.out | refine qi6 ?_ GE201.out | refine qi6 ?_ GE202.out) | exact HB.out)⟩

/-! ### laws_toReading: function 116 -/
def laws_toReading.f (a0_0 : Int) (a0_1 : Int) (a0_2 : ByteArray) : Option (Int × Int × ByteArray) := some (a0_0, a0_1, a0_2)
set_option maxHeartbeats 8000000 in
set_option maxRecDepth 100000 in
theorem laws_toReading.calls (a0_0 : Int) (a0_1 : Int) (a0_2 : ByteArray) (r1 : Int) (r2 : Int) (r3 : ByteArray) (w : World) (h : laws_toReading.f a0_0 a0_1 a0_2 = some (r1, r2, r3)) :
    Calls Try.prog 116 #[.agg #[.int .i64 a0_0, .int .i64 a0_1, .string a0_2]] w fun e w' => e = .returned (.agg #[.int .i64 r1, .int .i64 r2, .string r3]) ∧ Below w.heap.size w w' := by
  have hu135 := Try.underlying135
  have hu137 := Try.underlying137
  have HB := qj6 (Below.refl w.heap.size w)
  have H : (some (a0_0, a0_1, a0_2)) = some (r1, r2, r3) := h
  clear h
  simp only [Option.some.injEq, Prod.mk.injEq] at H
  obtain ⟨rfl, rfl, rfl⟩ := H
  go_enter Try.func116, Try.ntmps116
  go_wp2_with (first | ((with_reducible refine gate_dst (N := 1) rfl ?_); refine box_event ?hg (N := 1) ?hd (cs := #[.int .i64 a0_0, .int .i64 a0_1, .string a0_2]) (t := 135) ?hr ?_; (case hd => rfl); (case hg => rfl); (case hr => first | (go_simp; done) | (go_simp; rfl)); intro gb203 hg w2 hbox hb; have n0_ := qj6 (qk6 (by repeat (first | (with_reducible first | exact HB.out | apply qf6 | apply qg6 | apply qh6) | exact HB.out)) hb); have n1_ := qj6 (hbox); have n2_ := qj6 ((by rw [hg]; exact (ql6 (by repeat (first | (with_reducible first | exact HB.out | apply qf6 | apply qg6 | apply qh6) | exact HB.out))) : w.heap.size ≤ gb203)); have n3_ := qj6 ((by rw [hg]; exact (ql6 (by repeat (first | (with_reducible first | exact HB.out | apply qf6 | apply qg6 | apply qh6) | exact HB.out))) : w.heap.size ≤ gb203)); clear HB; have HB := n0_; have BK203 := n1_; have GW203 := n2_; have GE203 := n3_; clear n0_ n1_ n2_ n3_; clear hb hbox hg) | ((with_reducible refine gate_dst (N := 2) rfl ?_); refine box_event ?hg (N := 2) ?hd (cs := #[.int .i64 0, .int .i64 0, .string (⟨#[]⟩ : ByteArray)]) (t := 137) ?hr ?_; (case hd => rfl); (case hg => rfl); (case hr => first | (go_simp; done) | (go_simp; rfl)); intro gb204 hg w3 hbox hb; have n0_ := qj6 (blk_below (g := gb203) (o := .cells #[.int .i64 a0_0, .int .i64 a0_1, .string a0_2] 135 (0, 0)) (by (with_reducible repeat (first | apply qa6 | apply qb6 | apply qc6)); exact BK203.out) hb); have n1_ := qj6 (qk6 (by repeat (first | (with_reducible first | exact HB.out | apply qf6 | apply qg6 | apply qh6 | refine qi6 ?_ GE203.out) | exact HB.out)) hb); have n2_ := qj6 (hbox); have n3_ := qj6 ((by rw [hg]; exact (ql6 (by repeat (first | (with_reducible first | exact HB.out | apply qf6 | apply qg6 | apply qh6 | refine qi6 ?_ GE203.out) | exact HB.out))) : w.heap.size ≤ gb204)); have n4_ := qj6 ((by rw [hg]; exact (ql6 (by repeat (first | (with_reducible first | exact HB.out | apply qf6 | apply qg6 | apply qh6 | refine qi6 ?_ GE203.out) | exact HB.out))) : w.heap.size ≤ gb204)); have n5_ := qj6 ((by rw [hg]; exact Nat.ne_of_lt (blk_lt (g := gb203) (o := .cells #[.int .i64 a0_0, .int .i64 a0_1, .string a0_2] 135 (0, 0)) (by (with_reducible repeat (first | apply qa6 | apply qb6 | apply qc6)); exact BK203.out)) : gb203 ≠ gb204)); have n6_ := qj6 ((by rw [hg]; exact Nat.ne_of_gt (blk_lt (g := gb203) (o := .cells #[.int .i64 a0_0, .int .i64 a0_1, .string a0_2] 135 (0, 0)) (by (with_reducible repeat (first | apply qa6 | apply qb6 | apply qc6)); exact BK203.out)) : gb204 ≠ gb203)); clear BK203; clear HB; have BK203 := n0_; have HB := n1_; have BK204 := n2_; have GW204 := n3_; have GE204 := n4_; have NB203_204 := n5_; have NB204_203 := n6_; clear n0_ n1_ n2_ n3_ n4_ n5_ n6_; clear hb hbox hg) | ((with_reducible refine gate_dst (N := 3) rfl ?_); refine box_event ?hg (N := 3) ?hd (cs := #[.int .i64 0, .int .i64 0, .string (⟨#[]⟩ : ByteArray)]) (t := 137) ?hr ?_; (case hd => rfl); (case hg => rfl); (case hr => first | (go_simp; done) | (go_simp; rfl)); intro gb205 hg w4 hbox hb; have n0_ := qj6 (blk_below (g := gb203) (o := .cells #[.int .i64 a0_0, .int .i64 a0_1, .string a0_2] 135 (0, 0)) (by (with_reducible repeat (first | apply qa6 | apply qb6 | apply qc6)); exact BK203.out) hb); have n1_ := qj6 (blk_below (g := gb204) (o := .cells #[.int .i64 0, .int .i64 0, .string (⟨#[]⟩ : ByteArray)] 137 (0, 0)) (by (with_reducible repeat (first | apply qa6 | apply qb6 | apply qc6)); exact BK204.out) hb); have n2_ := qj6 (qk6 (by repeat (first | (with_reducible first | exact HB.out | apply qf6 | apply qg6 | apply qh6 | refine qi6 ?_ GE203.out | refine qi6 ?_ GE204.out) | exact HB.out)) hb); have n3_ := qj6 (hbox); have n4_ := qj6 ((by rw [hg]; exact (ql6 (by repeat (first | (with_reducible first | exact HB.out | apply qf6 | apply qg6 | apply qh6 | refine qi6 ?_ GE203.out | refine qi6 ?_ GE204.out) | exact HB.out))) : w.heap.size ≤ gb205)); have n5_ := qj6 ((by rw [hg]; exact (ql6 (by repeat (first | (with_reducible first | exact HB.out | apply qf6 | apply qg6 | apply qh6 | refine qi6 ?_ GE203.out | refine qi6 ?_ GE204.out) | exact HB.out))) : w.heap.size ≤ gb205)); have n6_ := qj6 ((by rw [hg]; exact Nat.ne_of_lt (blk_lt (g := gb203) (o := .cells #[.int .i64 a0_0, .int .i64 a0_1, .string a0_2] 135 (0, 0)) (by (with_reducible repeat (first | apply qa6 | apply qb6 | apply qc6)); exact BK203.out)) : gb203 ≠ gb205)); have n7_ := qj6 ((by rw [hg]; exact Nat.ne_of_gt (blk_lt (g := gb203) (o := .cells #[.int .i64 a0_0, .int .i64 a0_1, .string a0_2] 135 (0, 0)) (by (with_reducible repeat (first | apply qa6 | apply qb6 | apply qc6)); exact BK203.out)) : gb205 ≠ gb203)); have n8_ := qj6 ((by rw [hg]; exact Nat.ne_of_lt (blk_lt (g := gb204) (o := .cells #[.int .i64 0, .int .i64 0, .string (⟨#[]⟩ : ByteArray)] 137 (0, 0)) (by (with_reducible repeat (first | apply qa6 | apply qb6 | apply qc6)); exact BK204.out)) : gb204 ≠ gb205)); have n9_ := qj6 ((by rw [hg]; exact Nat.ne_of_gt (blk_lt (g := gb204) (o := .cells #[.int .i64 0, .int .i64 0, .string (⟨#[]⟩ : ByteArray)] 137 (0, 0)) (by (with_reducible repeat (first | apply qa6 | apply qb6 | apply qc6)); exact BK204.out)) : gb205 ≠ gb204)); clear BK203; clear BK204; clear HB; have BK203 := n0_; have BK204 := n1_; have HB := n2_; have BK205 := n3_; have GW205 := n4_; have GE205 := n5_; have NB203_205 := n6_; have NB205_203 := n7_; have NB204_205 := n8_; have NB205_204 := n9_; clear n0_ n1_ n2_ n3_ n4_ n5_ n6_ n7_ n8_ n9_; clear hb hbox hg; have hnb5 := NB203_204.out; have hnc5 := NB204_203.out; have hnb6 := NB203_205.out; have hnc6 := NB205_203.out; have hcz7_0 : w4.cell? ⟨gb203, 0, none⟩ = some (.int .i64 a0_0) := (blk_cell BK203.out 0).trans rfl; have hcz7_1 : w4.cell? ⟨gb203, 1, none⟩ = some (.int .i64 a0_1) := (blk_cell BK203.out 1).trans rfl; have hcz7_2 : w4.cell? ⟨gb203, 2, none⟩ = some (.string a0_2) := (blk_cell BK203.out 2).trans rfl; have hfz7_0 := blk_frozen BK203.out 0; have hfz7_1 := blk_frozen BK203.out 1; have hfz7_2 := blk_frozen BK203.out 2; have hnb8 := NB205_204.out; have hnc8 := NB204_205.out; have hcz9_0 : w4.cell? ⟨gb205, 0, none⟩ = some (.int .i64 0) := (blk_cell BK205.out 0).trans rfl; have hcz9_1 : w4.cell? ⟨gb205, 1, none⟩ = some (.int .i64 0) := (blk_cell BK205.out 1).trans rfl; have hcz9_2 : w4.cell? ⟨gb205, 2, none⟩ = some (.string (⟨#[]⟩ : ByteArray)) := (blk_cell BK205.out 2).trans rfl; have hfz9_0 := blk_frozen BK205.out 0; have hfz9_1 := blk_frozen BK205.out 1; have hfz9_2 := blk_frozen BK205.out 2; have hcz10_0 : w4.cell? ⟨gb204, 0, none⟩ = some (.int .i64 0) := (blk_cell BK204.out 0).trans rfl; have hcz10_1 : w4.cell? ⟨gb204, 1, none⟩ = some (.int .i64 0) := (blk_cell BK204.out 1).trans rfl; have hcz10_2 : w4.cell? ⟨gb204, 2, none⟩ = some (.string (⟨#[]⟩ : ByteArray)) := (blk_cell BK204.out 2).trans rfl; have hfz10_0 := blk_frozen BK204.out 0; have hfz10_1 := blk_frozen BK204.out 1; have hfz10_2 := blk_frozen BK204.out 2))
  refine bodyPost_ret (results_cell_row rfl _ _ gb204 137 #[.int .i64 a0_0, .int .i64 a0_1, .string a0_2] (0, 0) _ rfl (by (with_reducible repeat (first | apply qa6 | apply qb6 | apply qc6)); refine blk_put (cs := #[.int .i64 a0_0, .int .i64 a0_1, .string (⟨#[]⟩ : ByteArray)]) ?_ 2 _ rfl; (with_reducible repeat (first | apply qa6 | apply qb6 | apply qc6)); refine blk_put (cs := #[.int .i64 a0_0, .int .i64 0, .string (⟨#[]⟩ : ByteArray)]) ?_ 1 _ rfl; (with_reducible repeat (first | apply qa6 | apply qb6 | apply qc6)); refine blk_put (cs := #[.int .i64 0, .int .i64 0, .string (⟨#[]⟩ : ByteArray)]) ?_ 0 _ rfl; (with_reducible repeat (first | apply qa6 | apply qb6 | apply qc6)); refine blk_far ?_ NB204_205.out _; (with_reducible repeat (first | apply qa6 | apply qb6 | apply qc6)); refine blk_far ?_ NB204_205.out _; (with_reducible repeat (first | apply qa6 | apply qb6 | apply qc6)); refine blk_far ?_ NB204_205.out _; (with_reducible repeat (first | apply qa6 | apply qb6 | apply qc6)); exact BK204.out) Try.underlying137 rfl (by kernel_rfl)) rfl ?_
  exact ⟨by first | rfl | (simp [errW_none, errW_some] <;> rfl) | (simp [*, errW_none, errW_some] <;> rfl), by repeat (first | (with_reducible first | exact HB.out | apply qf6 | apply qg6 | apply qh6 | refine qi6 ?_ GE203.out | refine qi6 ?_ GE204.out | refine qi6 ?_ GE205.out) | exact HB.out)⟩

/-! ### laws_toReadingS: function 85 -/
def laws_toReadingS.l0 : Nat → List (S135) → List (S137) → Int → Option ((List (S137)))
  | 0, _, _, _ => none
  | k + 1, x0, x3, x4 => if x4 < (x0.length : Int) then (if 0 ≤ x4 then ((laws_toReading.f ((rd_T135 x0 x4).f0) ((rd_T135 x0 x4).f1) ((rd_T135 x0 x4).f2)).bind fun bt210 => (if x4 < (x3.length : Int) then (laws_toReadingS.l0 k x0 (x3.set (x4 : Int).toNat (⟨bt210.1, bt210.2.1, bt210.2.2⟩ : S137)) (wrap64 (x4 + 1))) else (none))) else (none)) else (some x3)
def laws_toReadingS.f (k : Nat) (l0 : List (S135)) : Option ((List (S137))) := if 0 ≤ (l0.length : Int) then (if ((l0.length : Int) : Int).toNat ≤ 8796093022208 then (laws_toReadingS.l0 k l0 (List.replicate ((l0.length : Int) : Int).toNat z137) 0) else (none)) else (none)
theorem laws_toReadingS.mono_l : ∀ k, (∀ y0 y1 y2, LeO (laws_toReadingS.l0 k y0 y1 y2) (laws_toReadingS.l0 (k + 1) y0 y1 y2))
  | 0 => fun _ _ _ r h => by simp [laws_toReadingS.l0] at h
  | k + 1 => by
    have ih0 := laws_toReadingS.mono_l k
    · intro y0 y1 y2
      unfold laws_toReadingS.l0
      repeat' first
      | (with_reducible exact ih0 _ _ _)
      | (with_reducible exact LeO.refl _)
      | (with_reducible exact LeO.none _)
      | (with_reducible refine LeO.ite ?_ ?_)
      | (with_reducible refine LeO.bind ?_ (fun _ => ?_))
      | exact ih0 _ _ _
      | exact LeO.none _
      | refine LeO.ite ?_ ?_
      | refine LeO.bind ?_ (fun _ => ?_)
theorem laws_toReadingS.mono : ∀ a0 k, LeO (laws_toReadingS.f k a0) (laws_toReadingS.f (k + 1) a0) := by
  intro a0 k
  have ih0 := laws_toReadingS.mono_l k
  unfold laws_toReadingS.f
  repeat' first
      | (with_reducible exact ih0 _ _ _)
      | (with_reducible exact LeO.refl _)
      | (with_reducible exact LeO.none _)
      | (with_reducible refine LeO.ite ?_ ?_)
      | (with_reducible refine LeO.bind ?_ (fun _ => ?_))
      | exact ih0 _ _ _
      | exact LeO.none _
      | refine LeO.ite ?_ ?_
      | refine LeO.bind ?_ (fun _ => ?_)
set_option maxHeartbeats 8000000 in
set_option maxRecDepth 100000 in
theorem laws_toReadingS.calls (k : Nat) (A0 : Option Addr) (c0 : Nat) (l0 : List (S135)) (r : List (S137)) (w : World) (hr0 : Kd.C k135 w A0 l0.length l0) (hc0 : l0.length ≤ c0) (h : laws_toReadingS.f k l0 = some r) :
    Calls Try.prog 85 #[.slice A0 l0.length c0] w fun e w' => ∃ v0_ : Value, e = .returned (v0_) ∧ Kd.R k137 137 w' w.heap.size (fun _ => True) v0_ r ∧ Below w.heap.size w w' := by
  have hu135 := Try.underlying135
  have hu137 := Try.underlying137
  have HR0 := qj6 hr0
  have HC0 := qj6 hc0
  clear hr0 hc0
  have HB := qj6 (Below.refl w.heap.size w)
  have H : (if 0 ≤ (l0.length : Int) then (if ((l0.length : Int) : Int).toNat ≤ 8796093022208 then (laws_toReadingS.l0 k l0 (List.replicate ((l0.length : Int) : Int).toNat z137) 0) else (none)) else (none)) = some r := h
  clear h
  by_cases c2 : 0 ≤ (l0.length : Int)
  · rw [if_pos c2] at H
    have c2b0 := eq_true c2
    have c2b1 : decide (0 ≤ (l0.length : Int)) = true := decide_eq_true c2
    clear c2
    by_cases c3 : ((l0.length : Int) : Int).toNat ≤ 8796093022208
    · rw [if_pos c3] at H
      have c3b0 := eq_true c3
      have c3b1 : decide (((l0.length : Int) : Int).toNat ≤ 8796093022208) = true := decide_eq_true c3
      clear c3
      obtain ⟨y206, hy206⟩ : ∃ y_ : List (S137), y_ = (List.replicate ((l0.length : Int) : Int).toNat z137) := ⟨_, rfl⟩
      replace H : (laws_toReadingS.l0 k l0 y206 0) = some r := by first | (rw [hy206]; with_reducible exact H) | (have H2_ := (Option.bind_some _ _).symm.trans H; rw [hy206]; with_reducible exact H2_) | (have H2_ := (Option.bind_some _ _).symm.trans H; with_reducible exact H2_) | with_reducible exact H | (rw [hy206]; exact H) | exact H
      have Ny206 := qj6 hy206
      clear hy206
      have H' := qj6 H
      clear H
      go_enter Try.func85, Try.ntmps85
      go_wp2_with (first | ((with_reducible refine gate_dst (N := 7) rfl ?_); refine Kd.R_make k137 _ 137 rfl (N := 7) rfl 58 _ _ rfl (l0.length : Int) rfl rfl Try.underlying58 (.agg #[(.int .i64 0), (.int .i64 0), (.string ⟨#[]⟩)]) 32 info137 rfl (by decide) (by omega) z137 (ok := fun _ => True) (okp := fun _ => True) (k137_mkM _ _ _ z137 ) (fun _ hk => hk) trivial (of_decide_eq_true (by first | (with_reducible assumption) | assumption)) (Nat.le_trans (Nat.mul_le_mul_right _ (of_decide_eq_true (by first | (with_reducible assumption) | assumption) : (l0.length : Int).toNat ≤ 8796093022208)) (by omega)) (Below.refl _ _) (Nat.le_refl _) ?_; intro v207 w4 ho5 hb hg_ hnew_; clear hg_ hnew_; (first | rw [← Ny206.out] at ho5 | (simp only [Int.reduceToNat] at ho5; rw [← Ny206.out] at ho5)); have n0_ := qj6 (Kd.R_lower ho5 (ql6 (by repeat (first | (with_reducible first | exact HB.out | apply qf6 | apply qg6 | apply qh6) | exact HB.out)))); have n1_ := qj6 (qk6 (by repeat (first | (with_reducible first | exact HB.out | apply qf6 | apply qg6 | apply qh6) | exact HB.out)) hb); clear HB; have HO208 := n0_; have HB := n1_; clear n0_ n1_; clear hb ho5))
      go_loopg [4] k (fun kq v4 w' => ∃ (x3_1 : List (S137)) (x4_1 : Int), v4 = .int .i64 x4_1 ∧ Aside0 (laws_toReadingS.l0 kq l0 x3_1 x4_1 = some r) ∧ Aside0 (kq ≤ k) ∧ Aside0 (Kd.R k137 137 w' w.heap.size (fun _ => True) v207 x3_1) ∧ Aside0 (Below w.heap.size w w'))
      case atStart => exact ⟨(y206), (0), (by first | rfl | (simp; done) | (simp [*]; done)), H', ⟨Nat.le_refl _⟩, ⟨by (with_reducible repeat (first | apply qd6 | apply qe6 | apply Kd.R_drew)); exact HO208.out⟩, ⟨by repeat (first | (with_reducible first | exact HB.out | apply qf6 | apply qg6 | apply qh6) | exact HB.out)⟩⟩
      case round =>
        clear H'
        try clear c2
        try clear c2b0
        try clear c2b1
        try clear p2
        try clear c3
        try clear c3b0
        try clear c3b1
        obtain ⟨x3_1, x4_1, rfl, HA, HK1, HO_3, HB⟩ := hrel
        cases gk with
        | zero => exact absurd HA.out (by simp [laws_toReadingS.l0])
        | succ k1 =>
          have H := HA.out
          clear HA
          simp only [laws_toReadingS.l0] at H
          by_cases c6 : x4_1 < (l0.length : Int)
          · rw [if_pos c6] at H
            have c6b0 : decide (x4_1 < (l0.length : Int)) = true := decide_eq_true c6
            clear c6
            by_cases c7 : 0 ≤ x4_1
            · rw [if_pos c7] at H
              have c7b0 : decide (0 ≤ x4_1) = true := decide_eq_true c7
              clear c7
              replace H := Option.bind_eq_some_iff.mp H
              obtain ⟨⟨t210, t211, t212⟩, A80, H⟩ := H
              replace H : (if x4_1 < (x3_1.length : Int) then (laws_toReadingS.l0 k1 l0 (x3_1.set (x4_1 : Int).toNat (⟨t210, t211, t212⟩ : S137)) (wrap64 (x4_1 + 1))) else (none)) = some r := H
              have A8 := qj6 A80
              clear A80
              by_cases c9 : x4_1 < (x3_1.length : Int)
              · rw [if_pos c9] at H
                have c9b0 : decide (x4_1 < (x3_1.length : Int)) = true := decide_eq_true c9
                clear c9
                obtain ⟨y213, hy213⟩ : ∃ y_ : List (S137), y_ = (x3_1.set (x4_1 : Int).toNat (⟨t210, t211, t212⟩ : S137)) := ⟨_, rfl⟩
                replace H : (laws_toReadingS.l0 k1 l0 y213 (wrap64 (x4_1 + 1))) = some r := by first | (rw [hy213]; with_reducible exact H) | (have H2_ := (Option.bind_some _ _).symm.trans H; rw [hy213]; with_reducible exact H2_) | (have H2_ := (Option.bind_some _ _).symm.trans H; with_reducible exact H2_) | with_reducible exact H | (rw [hy213]; exact H) | exact H
                have Ny213 := qj6 hy213
                clear hy213
                have H' := qj6 H
                clear H
                have p209 : 0 ≤ (x4_1 : Int) := of_decide_eq_true (by first | (with_reducible assumption) | assumption)
                have q209 : x4_1 < (l0.length : Int) := of_decide_eq_true (by first | (with_reducible assumption) | assumption)
                obtain ⟨ad209, e209, hx209_0, hx209_1, hx209_2⟩ := at_T135 HR0.out x4_1 p209 q209
                cases e209
                replace hx209_0 := (HB.out.cell (World.block_lt_of_cell? w _ hx209_0)).trans hx209_0
                replace hx209_1 := (HB.out.cell (World.block_lt_of_cell? w _ hx209_1)).trans hx209_1
                replace hx209_2 := (HB.out.cell (World.block_lt_of_cell? w _ hx209_2)).trans hx209_2
                replace p209 := eq_true p209
                replace q209 := eq_true q209
                go_wp2_with (first | ((with_reducible refine gate_callee (f := 116) rfl ?_); refine goesL_ (some 20) rfl rfl Try.func116 (by kernel_rfl) rfl #[.agg #[.int .i64 ((rd_T135 l0 x4_1).f0), .int .i64 ((rd_T135 l0 x4_1).f1), .string ((rd_T135 l0 x4_1).f2)]] rfl (by (try simp only [List.map_toArray, List.map_cons, List.map_nil]); first | done | rfl | (simp only [List.length_drop, List.length_take]; rfl)) ?_; (with_reducible refine (laws_toReading.calls ((rd_T135 l0 x4_1).f0) ((rd_T135 l0 x4_1).f1) ((rd_T135 l0 x4_1).f2) t210 t211 t212 _ A8.out).mono ?_); rintro e w11 ⟨rfl, hb⟩; refine ⟨_, rfl, ?_⟩; have n0_ := qj6 (Kd.R_below (by (with_reducible repeat (first | apply qd6 | apply qe6 | apply Kd.R_drew)); exact HO_3.out) hb); have n1_ := qj6 (qk6 (by repeat (first | (with_reducible first | exact HB.out | apply qf6 | apply qg6 | apply qh6) | exact HB.out)) hb); clear HO_3; clear HB; have HO_3 := n0_; have HB := n1_; clear n0_ n1_; (try clear hb); (try clear hb2); (try clear hk); (try clear hi); have p10 : 0 ≤ (x4_1 : Int) := of_decide_eq_true (by first | (with_reducible assumption) | assumption); have q10 : (x4_1 : Int) < ((x3_1.length : Int) : Int) := of_decide_eq_true (by first | (with_reducible assumption) | assumption); obtain ⟨go10, co10, eo10, gb10, gl10, cl10, HG10⟩ := Kd.R_form HO_3.out (by omega); (first | cases eo10 | (injection eo10 with ea_ en_ ec_; (first | subst ea_ | (injection ea_ with ea_; subst ea_)); subst ec_; clear en_)); have GB10 := qj6 gb10; have GG10 := qj6 HG10; clear gb10 gl10 HG10; obtain ⟨ce10, hcl10, hM10, hcc10, hfr10⟩ := Kd.R_elem HO_3.out z137 (x4_1 : Int) p10 q10; obtain rfl := k137_openM hM10; have hx10_0 : w11.cell? ⟨go10, (x4_1 : Int).toNat * 3, none⟩ = some (.int .i64 ((rd_T137 x3_1 x4_1).f0)) := hcc10 0 _ rfl; have hx10_1 : w11.cell? ⟨go10, (x4_1 : Int).toNat * 3 + 1, none⟩ = some (.int .i64 ((rd_T137 x3_1 x4_1).f1)) := hcc10 1 _ rfl; have hx10_2 : w11.cell? ⟨go10, (x4_1 : Int).toNat * 3 + 2, none⟩ = some (.string ((rd_T137 x3_1 x4_1).f2)) := hcc10 2 _ rfl; have hf10_0 : w11.frozen? ⟨go10, (x4_1 : Int).toNat * 3, none⟩ = false := hfr10 0 (by decide); have hf10_1 : w11.frozen? ⟨go10, (x4_1 : Int).toNat * 3 + 1, none⟩ = false := hfr10 1 (by decide); have hf10_2 : w11.frozen? ⟨go10, (x4_1 : Int).toNat * 3 + 2, none⟩ = false := hfr10 2 (by decide); clear hcl10 hcc10 hfr10 hM10; replace p10 := eq_true p10; replace q10 := eq_true q10; have HX12 := qj6 (show Kd.R k137 137 w11 w.heap.size (fun _ => True) (.slice (some ⟨go10, 0, none⟩) x3_1.length co10) x3_1 from (by (with_reducible repeat (first | apply qd6 | apply qe6 | apply Kd.R_drew)); exact HO_3.out)); obtain ⟨ce12, hcl12, hM12, hcc12, hfr12⟩ := Kd.R_elem HX12.out z137 (x4_1 : Int) (of_decide_eq_true (by first | (with_reducible assumption) | assumption)) (by have h_ : (x4_1 : Int) < ((x3_1.length : Int) : Int) := of_decide_eq_true (by first | (with_reducible assumption) | assumption); first | exact h_ | (have e_ := (Kd.R_reads' HO_3.out).1; omega) | simpa using h_); obtain rfl := k137_openM hM12; have HP12 := Kd.R_seg HX12.out (x4_1 : Int) (of_decide_eq_true (by first | (with_reducible assumption) | assumption)) (by have h_ : (x4_1 : Int) < ((x3_1.length : Int) : Int) := of_decide_eq_true (by first | (with_reducible assumption) | assumption); first | exact h_ | (have e_ := (Kd.R_reads' HO_3.out).1; omega) | simpa using h_) (seg := [.int .i64 t210, .int .i64 t211, .string t212]) (j := 0) hcl12 hcc12 (show 3 ≤ 3 from by decide) (x' := (⟨t210, t211, t212⟩ : S137)) (k137_mkM _ _ _ (⟨t210, t211, t212⟩ : S137) ) (fun _ hk => hk); have hx12_0 := hcc12 0 _ rfl; (try simp only [show (k137).sz = 3 from rfl, Nat.mul_one, Nat.add_zero] at hx12_0); have hf12_0 := hfr12 0 (by decide); (try simp only [show (k137).sz = 3 from rfl, Nat.mul_one, Nat.add_zero] at hf12_0); have hx12_1 := hcc12 1 _ rfl; (try simp only [show (k137).sz = 3 from rfl, Nat.mul_one, Nat.add_zero] at hx12_1); have hf12_1 := hfr12 1 (by decide); (try simp only [show (k137).sz = 3 from rfl, Nat.mul_one, Nat.add_zero] at hf12_1); have hx12_2 := hcc12 2 _ rfl; (try simp only [show (k137).sz = 3 from rfl, Nat.mul_one, Nat.add_zero] at hx12_2); have hf12_2 := hfr12 2 (by decide); (try simp only [show (k137).sz = 3 from rfl, Nat.mul_one, Nat.add_zero] at hf12_2); clear hcl12 hcc12 hfr12 hM12) | ((with_reducible refine gate_store (t := 137) (p := 21) rfl ?_); refine store_event (t := 137) (p := 21) (v := ?vo_w13) (w1 := (((w11.setCell ⟨go10, (x4_1 : Int).toNat * 3, none⟩ (.int .i64 t210)).setCell ⟨go10, (x4_1 : Int).toNat * 3 + 1, none⟩ (.int .i64 t211)).setCell ⟨go10, (x4_1 : Int).toNat * 3 + 2, none⟩ (.string t212))) ?hg ?ho ?hn ?hr ?_; (case ho => rfl); (case hg => rfl); (case hn => rfl); (case hr => first | (go_simp; done) | (go_simp; rfl)); intro w13 hw; have hg : w11.grownBy w13 (some go10) := (by rw [hw]; exact HP12.2); have hp_ : Kd.R k137 137 w13 w.heap.size (fun _ => True) (.slice (some ⟨go10, 0, none⟩) x3_1.length co10) y213 := (by rw [hw, Ny213.out]; exact HP12.1); clear HP12; have n0_ := qj6 (hp_); have n1_ := qj6 ((by rw [hw]; exact qi6 (qi6 (qi6 (HB.out) GB10.out) GB10.out) GB10.out : Below w.heap.size w w13)); clear HO_3; clear HB; have HO_3 := n0_; have HB := n1_; clear n0_ n1_; clear hg hw hp_))
                go_roundg k1
                case measure => have := HK1.out; omega
                case rel => exact ⟨(y213), (wrap64 (x4_1 + 1)), (by first | rfl | (simp; done) | (simp [*]; done)), H', ⟨by have := HK1.out; omega⟩, ⟨by (with_reducible repeat (first | apply qd6 | apply qe6 | apply Kd.R_drew)); exact HO_3.out⟩, ⟨by repeat (first | (with_reducible first | exact HB.out | apply qf6 | apply qg6 | apply qh6) | exact HB.out)⟩⟩
              · rw [if_neg c9] at H
                exact absurd H (by simp)
            · rw [if_neg c7] at H
              exact absurd H (by simp)
          · rw [if_neg c6] at H
            have c6b0 : decide (x4_1 < (l0.length : Int)) = false := decide_eq_false c6
            clear c6
            obtain rfl := Option.some.inj H
            go_wp2
            go_ret
            exact ⟨_, by first | rfl | (simp [errW_none, errW_some] <;> rfl) | (simp [*, errW_none, errW_some] <;> rfl), by (with_reducible repeat (first | apply qd6 | apply qe6 | apply Kd.R_drew)); exact HO_3.out, by repeat (first | (with_reducible first | exact HB.out | apply qf6 | apply qg6 | apply qh6) | exact HB.out)⟩
    · rw [if_neg c3] at H
      exact absurd H (by simp)
  · rw [if_neg c2] at H
    exact absurd H (by simp)

/-! ### laws_toBatch: function 45 -/
def laws_toBatch.f (k : Nat) (a0_0 : Bool) (a0_1 : Int) (a0_2 : Int) (a0_3 : Int) (a0_4 : Int) (a0_5 : ByteArray) (l0_6 : List (S135)) : Option (Bool × Int × Int × Int × Int × ByteArray × (List (S137))) := (laws_toRequest.f a0_1 a0_2 a0_3 a0_4 a0_5).bind fun bt217 => ((laws_toReadingS.f k l0_6).bind fun t222 => (some (a0_0, bt217.1, bt217.2.1, bt217.2.2.1, bt217.2.2.2.1, bt217.2.2.2.2, t222)))
theorem laws_toBatch.mono : ∀ a0 a1 a2 a3 a4 a5 a6 k, LeO (laws_toBatch.f k a0 a1 a2 a3 a4 a5 a6) (laws_toBatch.f (k + 1) a0 a1 a2 a3 a4 a5 a6) := by
  intro a0 a1 a2 a3 a4 a5 a6 k
  unfold laws_toBatch.f
  repeat' first
      | (with_reducible exact laws_toReadingS.mono _ _)
      | (with_reducible exact LeO.refl _)
      | (with_reducible exact LeO.none _)
      | (with_reducible refine LeO.ite ?_ ?_)
      | (with_reducible refine LeO.bind ?_ (fun _ => ?_))
      | exact laws_toReadingS.mono _ _
      | exact LeO.none _
      | refine LeO.ite ?_ ?_
      | refine LeO.bind ?_ (fun _ => ?_)
set_option maxHeartbeats 8000000 in
set_option maxRecDepth 100000 in
theorem laws_toBatch.calls (k : Nat) (a0_0 : Bool) (a0_1 : Int) (a0_2 : Int) (a0_3 : Int) (a0_4 : Int) (a0_5 : ByteArray) (A0_6 : Option Addr) (c0_6 : Nat) (l0_6 : List (S135)) (r1 : Bool) (r2 : Int) (r3 : Int) (r4 : Int) (r5 : Int) (r6 : ByteArray) (r7 : List (S137)) (w : World) (hr0_6 : Kd.C k135 w A0_6 l0_6.length l0_6) (hc0_6 : l0_6.length ≤ c0_6) (h : laws_toBatch.f k a0_0 a0_1 a0_2 a0_3 a0_4 a0_5 l0_6 = some (r1, r2, r3, r4, r5, r6, r7)) :
    Calls Try.prog 45 #[.agg #[.bool a0_0, .int .i64 a0_1, .int .i64 a0_2, .int .i64 a0_3, .int .i64 a0_4, .string a0_5, .slice A0_6 l0_6.length c0_6]] w fun e w' => ∃ v6_ : Value, e = .returned (.agg #[.bool r1, .int .i64 r2, .int .i64 r3, .int .i64 r4, .int .i64 r5, .string r6, v6_]) ∧ Kd.R k137 137 w' w.heap.size (fun _ => True) v6_ r7 ∧ Below w.heap.size w w' := by
  have hu55 := Try.underlying55
  have hu60 := Try.underlying60
  have hu41 := Try.underlying41
  have hu44 := Try.underlying44
  have HR0_6 := qj6 hr0_6
  have HC0_6 := qj6 hc0_6
  clear hr0_6 hc0_6
  have HB := qj6 (Below.refl w.heap.size w)
  have H : ((laws_toRequest.f a0_1 a0_2 a0_3 a0_4 a0_5).bind fun bt217 => ((laws_toReadingS.f k l0_6).bind fun t222 => (some (a0_0, bt217.1, bt217.2.1, bt217.2.2.1, bt217.2.2.2.1, bt217.2.2.2.2, t222)))) = some (r1, r2, r3, r4, r5, r6, r7) := h
  clear h
  replace H := Option.bind_eq_some_iff.mp H
  obtain ⟨⟨t217, t218, t219, t220, t221⟩, A20, H⟩ := H
  replace H : ((laws_toReadingS.f k l0_6).bind fun t222 => (some (a0_0, t217, t218, t219, t220, t221, t222))) = some (r1, r2, r3, r4, r5, r6, r7) := H
  have A2 := qj6 A20
  clear A20
  replace H := Option.bind_eq_some_iff.mp H
  obtain ⟨t222, A30, H⟩ := H
  replace H : (some (a0_0, t217, t218, t219, t220, t221, t222)) = some (r1, r2, r3, r4, r5, r6, r7) := H
  have A3 := qj6 A30
  clear A30
  simp only [Option.some.injEq, Prod.mk.injEq] at H
  obtain ⟨rfl, rfl, rfl, rfl, rfl, rfl, rfl⟩ := H
  go_enter Try.func45, Try.ntmps45
  go_wp2_with (first | ((with_reducible refine gate_dst (N := 1) rfl ?_); refine box_event ?hg (N := 1) ?hd (cs := #[.bool a0_0, .int .i64 a0_1, .int .i64 a0_2, .int .i64 a0_3, .int .i64 a0_4, .string a0_5, .slice A0_6 l0_6.length c0_6]) (t := 55) ?hr ?_; (case hd => rfl); (case hg => rfl); (case hr => first | (go_simp; done) | (go_simp; rfl)); intro gb214 hg w4 hbox hb; have n0_ := qj6 (qk6 (by repeat (first | (with_reducible first | exact HB.out | apply qf6 | apply qg6 | apply qh6) | exact HB.out)) hb); have n1_ := qj6 (hbox); have n2_ := qj6 ((by rw [hg]; exact (ql6 (by repeat (first | (with_reducible first | exact HB.out | apply qf6 | apply qg6 | apply qh6) | exact HB.out))) : w.heap.size ≤ gb214)); have n3_ := qj6 ((by rw [hg]; exact (ql6 (by repeat (first | (with_reducible first | exact HB.out | apply qf6 | apply qg6 | apply qh6) | exact HB.out))) : w.heap.size ≤ gb214)); clear HB; have HB := n0_; have BK214 := n1_; have GW214 := n2_; have GE214 := n3_; clear n0_ n1_ n2_ n3_; clear hb hbox hg) | ((with_reducible refine gate_dst (N := 2) rfl ?_); refine box_event ?hg (N := 2) ?hd (cs := #[.bool false, .int .i64 0, .int .i64 0, .int .i64 0, .int .i64 0, .string (⟨#[]⟩ : ByteArray), .slice none 0 0]) (t := 60) ?hr ?_; (case hd => rfl); (case hg => rfl); (case hr => first | (go_simp; done) | (go_simp; rfl)); intro gb215 hg w5 hbox hb; have n0_ := qj6 (blk_below (g := gb214) (o := .cells #[.bool a0_0, .int .i64 a0_1, .int .i64 a0_2, .int .i64 a0_3, .int .i64 a0_4, .string a0_5, .slice A0_6 l0_6.length c0_6] 55 (0, 0)) (by (with_reducible repeat (first | apply qa6 | apply qb6 | apply qc6)); exact BK214.out) hb); have n1_ := qj6 (qk6 (by repeat (first | (with_reducible first | exact HB.out | apply qf6 | apply qg6 | apply qh6 | refine qi6 ?_ GE214.out) | exact HB.out)) hb); have n2_ := qj6 (hbox); have n3_ := qj6 ((by rw [hg]; exact (ql6 (by repeat (first | (with_reducible first | exact HB.out | apply qf6 | apply qg6 | apply qh6 | refine qi6 ?_ GE214.out) | exact HB.out))) : w.heap.size ≤ gb215)); have n4_ := qj6 ((by rw [hg]; exact (ql6 (by repeat (first | (with_reducible first | exact HB.out | apply qf6 | apply qg6 | apply qh6 | refine qi6 ?_ GE214.out) | exact HB.out))) : w.heap.size ≤ gb215)); have n5_ := qj6 ((by rw [hg]; exact Nat.ne_of_lt (blk_lt (g := gb214) (o := .cells #[.bool a0_0, .int .i64 a0_1, .int .i64 a0_2, .int .i64 a0_3, .int .i64 a0_4, .string a0_5, .slice A0_6 l0_6.length c0_6] 55 (0, 0)) (by (with_reducible repeat (first | apply qa6 | apply qb6 | apply qc6)); exact BK214.out)) : gb214 ≠ gb215)); have n6_ := qj6 ((by rw [hg]; exact Nat.ne_of_gt (blk_lt (g := gb214) (o := .cells #[.bool a0_0, .int .i64 a0_1, .int .i64 a0_2, .int .i64 a0_3, .int .i64 a0_4, .string a0_5, .slice A0_6 l0_6.length c0_6] 55 (0, 0)) (by (with_reducible repeat (first | apply qa6 | apply qb6 | apply qc6)); exact BK214.out)) : gb215 ≠ gb214)); clear BK214; clear HB; have BK214 := n0_; have HB := n1_; have BK215 := n2_; have GW215 := n3_; have GE215 := n4_; have NB214_215 := n5_; have NB215_214 := n6_; clear n0_ n1_ n2_ n3_ n4_ n5_ n6_; clear hb hbox hg) | ((with_reducible refine gate_dst (N := 3) rfl ?_); refine box_event ?hg (N := 3) ?hd (cs := #[.bool false, .int .i64 0, .int .i64 0, .int .i64 0, .int .i64 0, .string (⟨#[]⟩ : ByteArray), .slice none 0 0]) (t := 60) ?hr ?_; (case hd => rfl); (case hg => rfl); (case hr => first | (go_simp; done) | (go_simp; rfl)); intro gb216 hg w6 hbox hb; have n0_ := qj6 (blk_below (g := gb214) (o := .cells #[.bool a0_0, .int .i64 a0_1, .int .i64 a0_2, .int .i64 a0_3, .int .i64 a0_4, .string a0_5, .slice A0_6 l0_6.length c0_6] 55 (0, 0)) (by (with_reducible repeat (first | apply qa6 | apply qb6 | apply qc6)); exact BK214.out) hb); have n1_ := qj6 (blk_below (g := gb215) (o := .cells #[.bool false, .int .i64 0, .int .i64 0, .int .i64 0, .int .i64 0, .string (⟨#[]⟩ : ByteArray), .slice none 0 0] 60 (0, 0)) (by (with_reducible repeat (first | apply qa6 | apply qb6 | apply qc6)); exact BK215.out) hb); have n2_ := qj6 (qk6 (by repeat (first | (with_reducible first | exact HB.out | apply qf6 | apply qg6 | apply qh6 | refine qi6 ?_ GE214.out | refine qi6 ?_ GE215.out) | exact HB.out)) hb); have n3_ := qj6 (hbox); have n4_ := qj6 ((by rw [hg]; exact (ql6 (by repeat (first | (with_reducible first | exact HB.out | apply qf6 | apply qg6 | apply qh6 | refine qi6 ?_ GE214.out | refine qi6 ?_ GE215.out) | exact HB.out))) : w.heap.size ≤ gb216)); have n5_ := qj6 ((by rw [hg]; exact (ql6 (by repeat (first | (with_reducible first | exact HB.out | apply qf6 | apply qg6 | apply qh6 | refine qi6 ?_ GE214.out | refine qi6 ?_ GE215.out) | exact HB.out))) : w.heap.size ≤ gb216)); have n6_ := qj6 ((by rw [hg]; exact Nat.ne_of_lt (blk_lt (g := gb214) (o := .cells #[.bool a0_0, .int .i64 a0_1, .int .i64 a0_2, .int .i64 a0_3, .int .i64 a0_4, .string a0_5, .slice A0_6 l0_6.length c0_6] 55 (0, 0)) (by (with_reducible repeat (first | apply qa6 | apply qb6 | apply qc6)); exact BK214.out)) : gb214 ≠ gb216)); have n7_ := qj6 ((by rw [hg]; exact Nat.ne_of_gt (blk_lt (g := gb214) (o := .cells #[.bool a0_0, .int .i64 a0_1, .int .i64 a0_2, .int .i64 a0_3, .int .i64 a0_4, .string a0_5, .slice A0_6 l0_6.length c0_6] 55 (0, 0)) (by (with_reducible repeat (first | apply qa6 | apply qb6 | apply qc6)); exact BK214.out)) : gb216 ≠ gb214)); have n8_ := qj6 ((by rw [hg]; exact Nat.ne_of_lt (blk_lt (g := gb215) (o := .cells #[.bool false, .int .i64 0, .int .i64 0, .int .i64 0, .int .i64 0, .string (⟨#[]⟩ : ByteArray), .slice none 0 0] 60 (0, 0)) (by (with_reducible repeat (first | apply qa6 | apply qb6 | apply qc6)); exact BK215.out)) : gb215 ≠ gb216)); have n9_ := qj6 ((by rw [hg]; exact Nat.ne_of_gt (blk_lt (g := gb215) (o := .cells #[.bool false, .int .i64 0, .int .i64 0, .int .i64 0, .int .i64 0, .string (⟨#[]⟩ : ByteArray), .slice none 0 0] 60 (0, 0)) (by (with_reducible repeat (first | apply qa6 | apply qb6 | apply qc6)); exact BK215.out)) : gb216 ≠ gb215)); clear BK214; clear BK215; clear HB; have BK214 := n0_; have BK215 := n1_; have HB := n2_; have BK216 := n3_; have GW216 := n4_; have GE216 := n5_; have NB214_216 := n6_; have NB216_214 := n7_; have NB215_216 := n8_; have NB216_215 := n9_; clear n0_ n1_ n2_ n3_ n4_ n5_ n6_ n7_ n8_ n9_; clear hb hbox hg; have hnb7 := NB214_215.out; have hnc7 := NB215_214.out; have hnb8 := NB214_216.out; have hnc8 := NB216_214.out; have hcz9_0 : w6.cell? ⟨gb214, 0, none⟩ = some (.bool a0_0) := (blk_cell BK214.out 0).trans rfl; have hcz9_1 : w6.cell? ⟨gb214, 1, none⟩ = some (.int .i64 a0_1) := (blk_cell BK214.out 1).trans rfl; have hcz9_2 : w6.cell? ⟨gb214, 2, none⟩ = some (.int .i64 a0_2) := (blk_cell BK214.out 2).trans rfl; have hcz9_3 : w6.cell? ⟨gb214, 3, none⟩ = some (.int .i64 a0_3) := (blk_cell BK214.out 3).trans rfl; have hcz9_4 : w6.cell? ⟨gb214, 4, none⟩ = some (.int .i64 a0_4) := (blk_cell BK214.out 4).trans rfl; have hcz9_5 : w6.cell? ⟨gb214, 5, none⟩ = some (.string a0_5) := (blk_cell BK214.out 5).trans rfl; have hcz9_6 : w6.cell? ⟨gb214, 6, none⟩ = some (.slice A0_6 l0_6.length c0_6) := (blk_cell BK214.out 6).trans rfl; have hfz9_0 := blk_frozen BK214.out 0; have hfz9_1 := blk_frozen BK214.out 1; have hfz9_2 := blk_frozen BK214.out 2; have hfz9_3 := blk_frozen BK214.out 3; have hfz9_4 := blk_frozen BK214.out 4; have hfz9_5 := blk_frozen BK214.out 5; have hfz9_6 := blk_frozen BK214.out 6; have hnb10 := NB216_215.out; have hnc10 := NB215_216.out; have hcz11_0 : w6.cell? ⟨gb216, 0, none⟩ = some (.bool false) := (blk_cell BK216.out 0).trans rfl; have hcz11_1 : w6.cell? ⟨gb216, 1, none⟩ = some (.int .i64 0) := (blk_cell BK216.out 1).trans rfl; have hcz11_2 : w6.cell? ⟨gb216, 2, none⟩ = some (.int .i64 0) := (blk_cell BK216.out 2).trans rfl; have hcz11_3 : w6.cell? ⟨gb216, 3, none⟩ = some (.int .i64 0) := (blk_cell BK216.out 3).trans rfl; have hcz11_4 : w6.cell? ⟨gb216, 4, none⟩ = some (.int .i64 0) := (blk_cell BK216.out 4).trans rfl; have hcz11_5 : w6.cell? ⟨gb216, 5, none⟩ = some (.string (⟨#[]⟩ : ByteArray)) := (blk_cell BK216.out 5).trans rfl; have hcz11_6 : w6.cell? ⟨gb216, 6, none⟩ = some (.slice none 0 0) := (blk_cell BK216.out 6).trans rfl; have hfz11_0 := blk_frozen BK216.out 0; have hfz11_1 := blk_frozen BK216.out 1; have hfz11_2 := blk_frozen BK216.out 2; have hfz11_3 := blk_frozen BK216.out 3; have hfz11_4 := blk_frozen BK216.out 4; have hfz11_5 := blk_frozen BK216.out 5; have hfz11_6 := blk_frozen BK216.out 6) | ((with_reducible refine gate_callee (f := 35) rfl ?_); refine goesL_ (some 9) rfl rfl Try.func35 (by kernel_rfl) rfl #[.agg #[.int .i64 a0_1, .int .i64 a0_2, .int .i64 a0_3, .int .i64 a0_4, .string a0_5]] rfl (by (try simp only [List.map_toArray, List.map_cons, List.map_nil]); first | done | rfl | (simp only [List.length_drop, List.length_take]; rfl)) ?_; (with_reducible refine (laws_toRequest.calls a0_1 a0_2 a0_3 a0_4 a0_5 t217 t218 t219 t220 t221 _ A2.out).mono ?_); rintro e w12 ⟨rfl, hb⟩; refine ⟨_, rfl, ?_⟩; have n0_ := qj6 (blk_below (g := gb214) (o := .cells #[.bool a0_0, .int .i64 a0_1, .int .i64 a0_2, .int .i64 a0_3, .int .i64 a0_4, .string a0_5, .slice A0_6 l0_6.length c0_6] 55 (0, 0)) (by (with_reducible repeat (first | apply qa6 | apply qb6 | apply qc6)); refine blk_far ?_ NB214_216.out _; (with_reducible repeat (first | apply qa6 | apply qb6 | apply qc6)); exact BK214.out) hb); have n1_ := qj6 (blk_below (g := gb215) (o := .cells #[.bool false, .int .i64 0, .int .i64 0, .int .i64 0, .int .i64 0, .string (⟨#[]⟩ : ByteArray), .slice none 0 0] 60 (0, 0)) (by (with_reducible repeat (first | apply qa6 | apply qb6 | apply qc6)); refine blk_far ?_ NB215_216.out _; (with_reducible repeat (first | apply qa6 | apply qb6 | apply qc6)); exact BK215.out) hb); have n2_ := qj6 (blk_below (g := gb216) (o := .cells #[.bool a0_0, .int .i64 0, .int .i64 0, .int .i64 0, .int .i64 0, .string (⟨#[]⟩ : ByteArray), .slice none 0 0] 60 (0, 0)) (by (with_reducible repeat (first | apply qa6 | apply qb6 | apply qc6)); refine blk_put (cs := #[.bool false, .int .i64 0, .int .i64 0, .int .i64 0, .int .i64 0, .string (⟨#[]⟩ : ByteArray), .slice none 0 0]) ?_ 0 _ rfl; (with_reducible repeat (first | apply qa6 | apply qb6 | apply qc6)); exact BK216.out) hb); have n3_ := qj6 (qk6 (by repeat (first | (with_reducible first | exact HB.out | apply qf6 | apply qg6 | apply qh6 | refine qi6 ?_ GE214.out | refine qi6 ?_ GE215.out | refine qi6 ?_ GE216.out) | exact HB.out)) hb); clear BK214; clear BK215; clear BK216; clear HB; have BK214 := n0_; have BK215 := n1_; have BK216 := n2_; have HB := n3_; clear n0_ n1_ n2_ n3_; (try clear hb); (try clear hb2); (try clear hk); (try clear hi); have hcz13_0 : w12.cell? ⟨gb216, 0, none⟩ = some (.bool a0_0) := (blk_cell BK216.out 0).trans rfl; have hcz13_1 : w12.cell? ⟨gb216, 1, none⟩ = some (.int .i64 0) := (blk_cell BK216.out 1).trans rfl; have hcz13_2 : w12.cell? ⟨gb216, 2, none⟩ = some (.int .i64 0) := (blk_cell BK216.out 2).trans rfl; have hcz13_3 : w12.cell? ⟨gb216, 3, none⟩ = some (.int .i64 0) := (blk_cell BK216.out 3).trans rfl; have hcz13_4 : w12.cell? ⟨gb216, 4, none⟩ = some (.int .i64 0) := (blk_cell BK216.out 4).trans rfl; have hcz13_5 : w12.cell? ⟨gb216, 5, none⟩ = some (.string (⟨#[]⟩ : ByteArray)) := (blk_cell BK216.out 5).trans rfl; have hcz13_6 : w12.cell? ⟨gb216, 6, none⟩ = some (.slice none 0 0) := (blk_cell BK216.out 6).trans rfl; have hfz13_0 := blk_frozen BK216.out 0; have hfz13_1 := blk_frozen BK216.out 1; have hfz13_2 := blk_frozen BK216.out 2; have hfz13_3 := blk_frozen BK216.out 3; have hfz13_4 := blk_frozen BK216.out 4; have hfz13_5 := blk_frozen BK216.out 5; have hfz13_6 := blk_frozen BK216.out 6; have hcz14_0 : w12.cell? ⟨gb214, 0, none⟩ = some (.bool a0_0) := (blk_cell BK214.out 0).trans rfl; have hcz14_1 : w12.cell? ⟨gb214, 1, none⟩ = some (.int .i64 a0_1) := (blk_cell BK214.out 1).trans rfl; have hcz14_2 : w12.cell? ⟨gb214, 2, none⟩ = some (.int .i64 a0_2) := (blk_cell BK214.out 2).trans rfl; have hcz14_3 : w12.cell? ⟨gb214, 3, none⟩ = some (.int .i64 a0_3) := (blk_cell BK214.out 3).trans rfl; have hcz14_4 : w12.cell? ⟨gb214, 4, none⟩ = some (.int .i64 a0_4) := (blk_cell BK214.out 4).trans rfl; have hcz14_5 : w12.cell? ⟨gb214, 5, none⟩ = some (.string a0_5) := (blk_cell BK214.out 5).trans rfl; have hcz14_6 : w12.cell? ⟨gb214, 6, none⟩ = some (.slice A0_6 l0_6.length c0_6) := (blk_cell BK214.out 6).trans rfl; have hfz14_0 := blk_frozen BK214.out 0; have hfz14_1 := blk_frozen BK214.out 1; have hfz14_2 := blk_frozen BK214.out 2; have hfz14_3 := blk_frozen BK214.out 3; have hfz14_4 := blk_frozen BK214.out 4; have hfz14_5 := blk_frozen BK214.out 5; have hfz14_6 := blk_frozen BK214.out 6) | ((with_reducible refine gate_callee (f := 85) rfl ?_); refine goesL_ (some 13) rfl rfl Try.func85 (by kernel_rfl) rfl #[.slice A0_6 l0_6.length c0_6] rfl (by (try simp only [List.map_toArray, List.map_cons, List.map_nil]); first | done | rfl | (simp only [List.length_drop, List.length_take]; rfl)) ?_; (with_reducible refine (laws_toReadingS.calls k _ _ l0_6 t222 _ ?side1 ?side2 A3.out).mono ?_); (case side1 => exact Kd.C_below HR0_6.out (by repeat (first | (with_reducible first | exact HB.out | apply qf6 | apply qg6 | apply qh6 | refine qi6 ?_ GE214.out | refine qi6 ?_ GE215.out | refine qi6 ?_ GE216.out) | exact HB.out))); (case side2 => exact HC0_6.out); rintro e w15 ⟨v223, rfl, ho0, hb⟩; refine ⟨_, rfl, ?_⟩; have n0_ := qj6 (Kd.R_lower ho0 (ql6 (by repeat (first | (with_reducible first | exact HB.out | apply qf6 | apply qg6 | apply qh6 | refine qi6 ?_ GE214.out | refine qi6 ?_ GE215.out | refine qi6 ?_ GE216.out) | exact HB.out)))); have n1_ := qj6 (blk_below (g := gb214) (o := .cells #[.bool a0_0, .int .i64 a0_1, .int .i64 a0_2, .int .i64 a0_3, .int .i64 a0_4, .string a0_5, .slice A0_6 l0_6.length c0_6] 55 (0, 0)) (by (with_reducible repeat (first | apply qa6 | apply qb6 | apply qc6)); refine blk_far ?_ NB214_216.out _; (with_reducible repeat (first | apply qa6 | apply qb6 | apply qc6)); refine blk_far ?_ NB214_216.out _; (with_reducible repeat (first | apply qa6 | apply qb6 | apply qc6)); refine blk_far ?_ NB214_216.out _; (with_reducible repeat (first | apply qa6 | apply qb6 | apply qc6)); refine blk_far ?_ NB214_216.out _; (with_reducible repeat (first | apply qa6 | apply qb6 | apply qc6)); refine blk_far ?_ NB214_216.out _; (with_reducible repeat (first | apply qa6 | apply qb6 | apply qc6)); exact BK214.out) hb); have n2_ := qj6 (blk_below (g := gb215) (o := .cells #[.bool false, .int .i64 0, .int .i64 0, .int .i64 0, .int .i64 0, .string (⟨#[]⟩ : ByteArray), .slice none 0 0] 60 (0, 0)) (by (with_reducible repeat (first | apply qa6 | apply qb6 | apply qc6)); refine blk_far ?_ NB215_216.out _; (with_reducible repeat (first | apply qa6 | apply qb6 | apply qc6)); refine blk_far ?_ NB215_216.out _; (with_reducible repeat (first | apply qa6 | apply qb6 | apply qc6)); refine blk_far ?_ NB215_216.out _; (with_reducible repeat (first | apply qa6 | apply qb6 | apply qc6)); refine blk_far ?_ NB215_216.out _; (with_reducible repeat (first | apply qa6 | apply qb6 | apply qc6)); refine blk_far ?_ NB215_216.out _; (with_reducible repeat (first | apply qa6 | apply qb6 | apply qc6)); exact BK215.out) hb); have n3_ := qj6 (blk_below (g := gb216) (o := .cells #[.bool a0_0, .int .i64 t217, .int .i64 t218, .int .i64 t219, .int .i64 t220, .string t221, .slice none 0 0] 60 (0, 0)) (by (with_reducible repeat (first | apply qa6 | apply qb6 | apply qc6)); refine blk_put (cs := #[.bool a0_0, .int .i64 t217, .int .i64 t218, .int .i64 t219, .int .i64 t220, .string (⟨#[]⟩ : ByteArray), .slice none 0 0]) ?_ 5 _ rfl; (with_reducible repeat (first | apply qa6 | apply qb6 | apply qc6)); refine blk_put (cs := #[.bool a0_0, .int .i64 t217, .int .i64 t218, .int .i64 t219, .int .i64 0, .string (⟨#[]⟩ : ByteArray), .slice none 0 0]) ?_ 4 _ rfl; (with_reducible repeat (first | apply qa6 | apply qb6 | apply qc6)); refine blk_put (cs := #[.bool a0_0, .int .i64 t217, .int .i64 t218, .int .i64 0, .int .i64 0, .string (⟨#[]⟩ : ByteArray), .slice none 0 0]) ?_ 3 _ rfl; (with_reducible repeat (first | apply qa6 | apply qb6 | apply qc6)); refine blk_put (cs := #[.bool a0_0, .int .i64 t217, .int .i64 0, .int .i64 0, .int .i64 0, .string (⟨#[]⟩ : ByteArray), .slice none 0 0]) ?_ 2 _ rfl; (with_reducible repeat (first | apply qa6 | apply qb6 | apply qc6)); refine blk_put (cs := #[.bool a0_0, .int .i64 0, .int .i64 0, .int .i64 0, .int .i64 0, .string (⟨#[]⟩ : ByteArray), .slice none 0 0]) ?_ 1 _ rfl; (with_reducible repeat (first | apply qa6 | apply qb6 | apply qc6)); exact BK216.out) hb); have n4_ := qj6 (qk6 (by repeat (first | (with_reducible first | exact HB.out | apply qf6 | apply qg6 | apply qh6 | refine qi6 ?_ GE214.out | refine qi6 ?_ GE215.out | refine qi6 ?_ GE216.out) | exact HB.out)) hb); clear BK214; clear BK215; clear BK216; clear HB; have HO224 := n0_; have BK214 := n1_; have BK215 := n2_; have BK216 := n3_; have HB := n4_; clear n0_ n1_ n2_ n3_ n4_; (try clear hb); (try clear hb2); (try clear hk); (try clear hi); (try clear ho0); obtain ⟨Ao16, co16, eo16⟩ := Kd.R_slice HO224.out; subst eo16; have hcz17_0 : w15.cell? ⟨gb216, 0, none⟩ = some (.bool a0_0) := (blk_cell BK216.out 0).trans rfl; have hcz17_1 : w15.cell? ⟨gb216, 1, none⟩ = some (.int .i64 t217) := (blk_cell BK216.out 1).trans rfl; have hcz17_2 : w15.cell? ⟨gb216, 2, none⟩ = some (.int .i64 t218) := (blk_cell BK216.out 2).trans rfl; have hcz17_3 : w15.cell? ⟨gb216, 3, none⟩ = some (.int .i64 t219) := (blk_cell BK216.out 3).trans rfl; have hcz17_4 : w15.cell? ⟨gb216, 4, none⟩ = some (.int .i64 t220) := (blk_cell BK216.out 4).trans rfl; have hcz17_5 : w15.cell? ⟨gb216, 5, none⟩ = some (.string t221) := (blk_cell BK216.out 5).trans rfl; have hcz17_6 : w15.cell? ⟨gb216, 6, none⟩ = some (.slice none 0 0) := (blk_cell BK216.out 6).trans rfl; have hfz17_0 := blk_frozen BK216.out 0; have hfz17_1 := blk_frozen BK216.out 1; have hfz17_2 := blk_frozen BK216.out 2; have hfz17_3 := blk_frozen BK216.out 3; have hfz17_4 := blk_frozen BK216.out 4; have hfz17_5 := blk_frozen BK216.out 5; have hfz17_6 := blk_frozen BK216.out 6; have hcz18_0 : w15.cell? ⟨gb215, 0, none⟩ = some (.bool false) := (blk_cell BK215.out 0).trans rfl; have hcz18_1 : w15.cell? ⟨gb215, 1, none⟩ = some (.int .i64 0) := (blk_cell BK215.out 1).trans rfl; have hcz18_2 : w15.cell? ⟨gb215, 2, none⟩ = some (.int .i64 0) := (blk_cell BK215.out 2).trans rfl; have hcz18_3 : w15.cell? ⟨gb215, 3, none⟩ = some (.int .i64 0) := (blk_cell BK215.out 3).trans rfl; have hcz18_4 : w15.cell? ⟨gb215, 4, none⟩ = some (.int .i64 0) := (blk_cell BK215.out 4).trans rfl; have hcz18_5 : w15.cell? ⟨gb215, 5, none⟩ = some (.string (⟨#[]⟩ : ByteArray)) := (blk_cell BK215.out 5).trans rfl; have hcz18_6 : w15.cell? ⟨gb215, 6, none⟩ = some (.slice none 0 0) := (blk_cell BK215.out 6).trans rfl; have hfz18_0 := blk_frozen BK215.out 0; have hfz18_1 := blk_frozen BK215.out 1; have hfz18_2 := blk_frozen BK215.out 2; have hfz18_3 := blk_frozen BK215.out 3; have hfz18_4 := blk_frozen BK215.out 4; have hfz18_5 := blk_frozen BK215.out 5; have hfz18_6 := blk_frozen BK215.out 6))
  refine bodyPost_ret (results_cell_row rfl _ _ gb215 60 #[.bool a0_0, .int .i64 t217, .int .i64 t218, .int .i64 t219, .int .i64 t220, .string t221, .slice Ao16 t222.length co16] (0, 0) _ rfl (by (with_reducible repeat (first | apply qa6 | apply qb6 | apply qc6)); refine blk_put (cs := #[.bool a0_0, .int .i64 t217, .int .i64 t218, .int .i64 t219, .int .i64 t220, .string t221, .slice none 0 0]) ?_ 6 _ rfl; (with_reducible repeat (first | apply qa6 | apply qb6 | apply qc6)); refine blk_put (cs := #[.bool a0_0, .int .i64 t217, .int .i64 t218, .int .i64 t219, .int .i64 t220, .string (⟨#[]⟩ : ByteArray), .slice none 0 0]) ?_ 5 _ rfl; (with_reducible repeat (first | apply qa6 | apply qb6 | apply qc6)); refine blk_put (cs := #[.bool a0_0, .int .i64 t217, .int .i64 t218, .int .i64 t219, .int .i64 0, .string (⟨#[]⟩ : ByteArray), .slice none 0 0]) ?_ 4 _ rfl; (with_reducible repeat (first | apply qa6 | apply qb6 | apply qc6)); refine blk_put (cs := #[.bool a0_0, .int .i64 t217, .int .i64 t218, .int .i64 0, .int .i64 0, .string (⟨#[]⟩ : ByteArray), .slice none 0 0]) ?_ 3 _ rfl; (with_reducible repeat (first | apply qa6 | apply qb6 | apply qc6)); refine blk_put (cs := #[.bool a0_0, .int .i64 t217, .int .i64 0, .int .i64 0, .int .i64 0, .string (⟨#[]⟩ : ByteArray), .slice none 0 0]) ?_ 2 _ rfl; (with_reducible repeat (first | apply qa6 | apply qb6 | apply qc6)); refine blk_put (cs := #[.bool a0_0, .int .i64 0, .int .i64 0, .int .i64 0, .int .i64 0, .string (⟨#[]⟩ : ByteArray), .slice none 0 0]) ?_ 1 _ rfl; (with_reducible repeat (first | apply qa6 | apply qb6 | apply qc6)); refine blk_put (cs := #[.bool false, .int .i64 0, .int .i64 0, .int .i64 0, .int .i64 0, .string (⟨#[]⟩ : ByteArray), .slice none 0 0]) ?_ 0 _ rfl; (with_reducible repeat (first | apply qa6 | apply qb6 | apply qc6)); refine blk_far ?_ NB215_216.out _; (with_reducible repeat (first | apply qa6 | apply qb6 | apply qc6)); exact BK215.out) Try.underlying60 rfl (by kernel_rfl)) rfl ?_
  exact ⟨_, by first | rfl | (simp [errW_none, errW_some] <;> rfl) | (simp [*, errW_none, errW_some] <;> rfl), by (with_reducible repeat (first | apply qd6 | apply qe6 | apply Kd.R_drew)); exact Kd.R_mono (Kd.R_far (p := ⟨gb215, 6, none⟩) (Kd.R_far (p := ⟨gb215, 5, none⟩) (Kd.R_far (p := ⟨gb215, 4, none⟩) (Kd.R_far (p := ⟨gb215, 3, none⟩) (Kd.R_far (p := ⟨gb215, 2, none⟩) (Kd.R_far (p := ⟨gb215, 1, none⟩) (Kd.R_far (p := ⟨gb215, 0, none⟩) (Kd.R_far (p := ⟨gb216, 6, none⟩) (Kd.R_types (Kd.R_types HO224.out BK216.out (by decide)) BK215.out (by decide)) (fun _ hk => hk.1.2) (.slice Ao16 t222.length co16)) (fun _ hk => hk.2) (.bool a0_0)) (fun _ hk => hk.2) (.int .i64 t217)) (fun _ hk => hk.2) (.int .i64 t218)) (fun _ hk => hk.2) (.int .i64 t219)) (fun _ hk => hk.2) (.int .i64 t220)) (fun _ hk => hk.2) (.string t221)) (fun _ hk => hk.2) (.slice Ao16 t222.length co16)) (fun _ hk => trivial), by repeat (first | (with_reducible first | exact HB.out | apply qf6 | apply qg6 | apply qh6 | refine qi6 ?_ GE214.out | refine qi6 ?_ GE215.out | refine qi6 ?_ GE216.out) | exact HB.out)⟩

/-! ### impl_within: function 98 -/
def impl_within.f (a0 : Int) (a1 : Int) (a2 : Int) : Option (Bool) := if a0 ≥ a1 then (some (decide (a0 ≤ a2))) else (some false)
set_option maxHeartbeats 8000000 in
set_option maxRecDepth 100000 in
theorem impl_within.calls (a0 : Int) (a1 : Int) (a2 : Int) (r : Bool) (w : World) (h : impl_within.f a0 a1 a2 = some r) :
    Calls Try.prog 98 #[.int .i64 a0, .int .i64 a1, .int .i64 a2] w fun e w' => e = .returned (.bool r) ∧ Drawn0 w w' := by
  have H : (if a0 ≥ a1 then (some (decide (a0 ≤ a2))) else (some false)) = some r := h
  clear h
  by_cases c4 : a0 ≥ a1
  · rw [if_pos c4] at H
    have c4b0 : decide (a1 ≤ a0) = true := decide_eq_true c4
    clear c4
    obtain rfl := Option.some.inj H
    go_enter Try.func98, Try.ntmps98
    go_wp2
    go_ret
    exact ⟨by first | rfl | (simp; done) | (simp [*]; done), by repeat (first | exact Drawn0.refl _ | apply Drawn0.step)⟩
  · rw [if_neg c4] at H
    have c4b0 : decide (a1 ≤ a0) = false := decide_eq_false c4
    clear c4
    obtain rfl := Option.some.inj H
    go_enter Try.func98, Try.ntmps98
    go_wp2
    go_ret
    exact ⟨by first | rfl | (simp; done) | (simp [*]; done), by repeat (first | exact Drawn0.refl _ | apply Drawn0.step)⟩

end Go.Proofs.Ytgekkfgljjbikaa.PFnExactBatchBytes
