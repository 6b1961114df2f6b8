-- laid by this session's program myprint.py over the kit's printer
-- aliased
import Derived.Test.YtmkaknegjahjaaaDoorPFnChainx0
import Derived.Test.YtmkaknegjahjaaaDoorPFnChainx2
import Derived.Test.YtmkaknegjahjaaaDoorPFnChainx4
namespace Go.Proofs.YtmkaknegjahjaaaDoor.PFnChain
open Go.RowKit Go.Proofs.YtmkaknegjahjaaaDoorV.PrintWords Go.Proofs.YtmkaknegjahjaaaDoorV.PrintLast Go.Proofs.YtmkaknegjahjaaaDoorV.PrintMore
attribute [local go_sem] max2_int min2_int max_two min_two max_three min_three max_four min_four u8_wm u32_wm   -- for this text's walks alone
set_option linter.unusedVariables false
set_option linter.unusedSimpArgs false

/-! ### impl_SignNext: function 19 -/
theorem qa5 : type_of% @blk_drewN := @blk_drewN
theorem qb5 : type_of% @blk_drew := @blk_drew
theorem qc5 : type_of% @blk_alloc := @blk_alloc
theorem qd5 : type_of% @Kd.R_alloc := @Kd.R_alloc
theorem qe5 : type_of% @Kd.R_drewN := @Kd.R_drewN
theorem qf5 : type_of% @Kd.R_drew := @Kd.R_drew
theorem qg5 : type_of% @below_alloc := @below_alloc
theorem qh5 : type_of% @pw_below_drewN := @pw_below_drewN
theorem qi5 : type_of% @below_drew1 := @below_drew1
theorem qj5 : type_of% @below_set := @below_set
theorem qk5 : type_of% @Aside0.mk := @Aside0.mk
theorem ql5 : type_of% @below_step := @below_step
theorem qm5 : type_of% @below_size := @below_size
def impl_SignNext.f (k : Nat) (a0_0 : ByteArray) (a0_1 : Int) (a1 : ByteArray) : Option (ByteArray × Int × Int × List ByteArray × List ByteArray × List ByteArray × Int) := if (a1.size : Int) > 65530 then (some ((⟨#[]⟩ : ByteArray), 0, 0, ([] : List ByteArray), ([] : List ByteArray), ([] : List ByteArray), 2)) else ((impl_KeyChainOK.f a0_0 a0_1).bind fun t167 => (if t167 = true then (if a0_1 = 8 then (some (a0_0, a0_1, 0, ([] : List ByteArray), ([] : List ByteArray), ([] : List ByteArray), 13)) else ((impl_signAt.f k a0_0 a0_1 a1).bind fun bt168 => (some (a0_0, wrap64 (a0_1 + 1), bt168.1, bt168.2.1, bt168.2.2.1, bt168.2.2.2, 0)))) else (some ((⟨#[]⟩ : ByteArray), 0, 0, ([] : List ByteArray), ([] : List ByteArray), ([] : List ByteArray), 1))))
theorem impl_SignNext.mono : ∀ a0 a1 a2 k, LeO (impl_SignNext.f k a0 a1 a2) (impl_SignNext.f (k + 1) a0 a1 a2) := by
  intro a0 a1 a2 k
  unfold impl_SignNext.f
  repeat' first
      | (with_reducible exact impl_signAt.mono _ _ _ _)
      | (with_reducible exact LeO.refl _)
      | (with_reducible exact LeO.none _)
      | (with_reducible refine LeO.ite ?_ ?_)
      | (with_reducible refine LeO.bind ?_ (fun _ => ?_))
      | exact impl_signAt.mono _ _ _ _
      | exact LeO.none _
      | refine LeO.ite ?_ ?_
      | refine LeO.bind ?_ (fun _ => ?_)
def impl_SignNext.T7 : Bool × List (List Nat × List Nat) := (true, [([], []), ([0], [0]), ([], []), ([2], [2]), ([3], [3]), ([1, 4], [1, 4]), ([], []), ([6], [6]), ([], []), ([8], [8]), ([], []), ([7, 9, 10], [7, 9, 10]), ([5, 11, 0, 1, 2, 3, 4, 5], [5]), ([11, 12, 0, 1, 2, 3, 4, 5, 6, 7, 8, 9, 10, 11, 12], [11]), ([13, 0, 1, 2, 3, 4, 5, 6, 7, 8, 9, 10, 11, 12, 13], [])])
def impl_SignNext.B7 : List Nat := [0, 1, 0, 4, 12, 31, 0, 64, 0, 256, 0, 1984, 4095, 8191, 16383]
theorem impl_SignNext.tab7 : rtab .any (opsOf Tryd.f19 7) = impl_SignNext.T7 := by kernel_rfl
theorem impl_SignNext.bits7 : waitsOk impl_SignNext.T7.2 impl_SignNext.B7 = true := by kernel_rfl
set_option maxHeartbeats 8000000 in
set_option maxRecDepth 100000 in
theorem impl_SignNext.calls (k : Nat) (a0_0 : ByteArray) (a0_1 : Int) (a1 : ByteArray) (r1 : ByteArray) (r2 : Int) (r3 : Int) (r4 : List ByteArray) (r5 : List ByteArray) (r6 : List ByteArray) (r7 : Int) (w : World) (hG_ : Go.Proofs.YtmkaknegjahjaaaDoor.Sha.GlobA w) (h : impl_SignNext.f k a0_0 a0_1 a1 = some (r1, r2, r3, r4, r5, r6, r7)) :
    Calls Tryd.prog 19 #[.agg #[.string a0_0, .int .i64 a0_1], .string a1] w fun e w' => ∃ v3_ v4_ v5_ : Value, e = .returned (.tuple #[.agg #[.string r1, .int .i64 r2], .agg #[.int .i64 r3, v3_, v4_, v5_], .int .i64 r7]) ∧ Kd.R Kd.string 9 w' w.heap.size (fun k_ => some k_ ≠ (v4_ : Value).ownBlock ∧ some k_ ≠ (v5_ : Value).ownBlock) v3_ r4 ∧ Kd.R Kd.string 9 w' w.heap.size (fun k_ => some k_ ≠ (v3_ : Value).ownBlock ∧ some k_ ≠ (v5_ : Value).ownBlock) v4_ r5 ∧ Kd.R Kd.string 9 w' w.heap.size (fun k_ => some k_ ≠ (v3_ : Value).ownBlock ∧ some k_ ≠ (v4_ : Value).ownBlock) v5_ r6 ∧ Below w.heap.size w w' := by
  have hu30 := Tryd.underlying30
  have hu33 := Tryd.underlying33
  have HB := qk5 (Below.refl w.heap.size w)
  have H : (if (a1.size : Int) > 65530 then (some ((⟨#[]⟩ : ByteArray), 0, 0, ([] : List ByteArray), ([] : List ByteArray), ([] : List ByteArray), 2)) else ((impl_KeyChainOK.f a0_0 a0_1).bind fun t167 => (if t167 = true then (if a0_1 = 8 then (some (a0_0, a0_1, 0, ([] : List ByteArray), ([] : List ByteArray), ([] : List ByteArray), 13)) else ((impl_signAt.f k a0_0 a0_1 a1).bind fun bt168 => (some (a0_0, wrap64 (a0_1 + 1), bt168.1, bt168.2.1, bt168.2.2.1, bt168.2.2.2, 0)))) else (some ((⟨#[]⟩ : ByteArray), 0, 0, ([] : List ByteArray), ([] : List ByteArray), ([] : List ByteArray), 1))))) = some (r1, r2, r3, r4, r5, r6, r7) := h
  clear h
  by_cases c3 : (a1.size : Int) > 65530
  · rw [if_pos c3] at H
    have c3b0 : decide (65530 < (a1.size : Int)) = true := decide_eq_true c3
    have c3b1 : decide (65530 < a1.size) = true := decide_eq_true (by omega)
    clear c3
    simp only [Option.some.injEq, Prod.mk.injEq] at H
    obtain ⟨rfl, rfl, rfl, rfl, rfl, rfl, rfl⟩ := H
    go_enter Tryd.func19, Tryd.ntmps19
    go_wp2_with (first | ((with_reducible refine gate_dst (N := 2) rfl ?_); refine box_event ?hg (N := 2) ?hd (cs := #[.string a0_0, .int .i64 a0_1]) (t := 30) ?hr ?_; (case hd => rfl); (case hg => rfl); (case hr => first | (go_simp; done) | (go_simp; rfl)); intro gb164 hg w4 hbox hb; have n0_ := qk5 (ql5 (by repeat (first | (with_reducible first | exact HB.out | apply qg5 | apply qh5 | apply qi5) | exact HB.out)) hb); have n1_ := qk5 (hbox); have n2_ := qk5 ((by rw [hg]; exact (qm5 (by repeat (first | (with_reducible first | exact HB.out | apply qg5 | apply qh5 | apply qi5) | exact HB.out))) : w.heap.size ≤ gb164)); have n3_ := qk5 ((by rw [hg]; exact (qm5 (by repeat (first | (with_reducible first | exact HB.out | apply qg5 | apply qh5 | apply qi5) | exact HB.out))) : w.heap.size ≤ gb164)); clear HB; have HB := n0_; have BK164 := n1_; have GW164 := n2_; have GE164 := n3_; clear n0_ n1_ n2_ n3_; clear hb hbox hg) | ((with_reducible refine gate_dst (N := 4) rfl ?_); refine box_event ?hg (N := 4) ?hd (cs := #[.string (⟨#[]⟩ : ByteArray), .int .i64 0]) (t := 30) ?hr ?_; (case hd => rfl); (case hg => rfl); (case hr => first | (go_simp; done) | (go_simp; rfl)); intro gb165 hg w5 hbox hb; have n0_ := qk5 (blk_below (g := gb164) (o := .cells #[.string a0_0, .int .i64 a0_1] 30 (0, 0)) (by (with_reducible repeat (first | apply qa5 | apply qb5 | apply qc5)); exact BK164.out) hb); have n1_ := qk5 (ql5 (by repeat (first | (with_reducible first | exact HB.out | apply qg5 | apply qh5 | apply qi5 | refine qj5 ?_ GE164.out) | exact HB.out)) hb); have n2_ := qk5 (hbox); have n3_ := qk5 ((by rw [hg]; exact (qm5 (by repeat (first | (with_reducible first | exact HB.out | apply qg5 | apply qh5 | apply qi5 | refine qj5 ?_ GE164.out) | exact HB.out))) : w.heap.size ≤ gb165)); have n4_ := qk5 ((by rw [hg]; exact (qm5 (by repeat (first | (with_reducible first | exact HB.out | apply qg5 | apply qh5 | apply qi5 | refine qj5 ?_ GE164.out) | exact HB.out))) : w.heap.size ≤ gb165)); have n5_ := qk5 ((by rw [hg]; exact Nat.ne_of_lt (blk_lt (g := gb164) (o := .cells #[.string a0_0, .int .i64 a0_1] 30 (0, 0)) (by (with_reducible repeat (first | apply qa5 | apply qb5 | apply qc5)); exact BK164.out)) : gb164 ≠ gb165)); have n6_ := qk5 ((by rw [hg]; exact Nat.ne_of_gt (blk_lt (g := gb164) (o := .cells #[.string a0_0, .int .i64 a0_1] 30 (0, 0)) (by (with_reducible repeat (first | apply qa5 | apply qb5 | apply qc5)); exact BK164.out)) : gb165 ≠ gb164)); clear BK164; clear HB; have BK164 := n0_; have HB := n1_; have BK165 := n2_; have GW165 := n3_; have GE165 := n4_; have NB164_165 := n5_; have NB165_164 := n6_; clear n0_ n1_ n2_ n3_ n4_ n5_ n6_; clear hb hbox hg) | ((with_reducible refine gate_dst (N := 5) rfl ?_); refine box_event ?hg (N := 5) ?hd (cs := #[.int .i64 0, .slice none 0 0, .slice none 0 0, .slice none 0 0]) (t := 33) ?hr ?_; (case hd => rfl); (case hg => rfl); (case hr => first | (go_simp; done) | (go_simp; rfl)); intro gb166 hg w6 hbox hb; have n0_ := qk5 (blk_below (g := gb164) (o := .cells #[.string a0_0, .int .i64 a0_1] 30 (0, 0)) (by (with_reducible repeat (first | apply qa5 | apply qb5 | apply qc5)); exact BK164.out) hb); have n1_ := qk5 (blk_below (g := gb165) (o := .cells #[.string (⟨#[]⟩ : ByteArray), .int .i64 0] 30 (0, 0)) (by (with_reducible repeat (first | apply qa5 | apply qb5 | apply qc5)); exact BK165.out) hb); have n2_ := qk5 (ql5 (by repeat (first | (with_reducible first | exact HB.out | apply qg5 | apply qh5 | apply qi5 | refine qj5 ?_ GE164.out | refine qj5 ?_ GE165.out) | exact HB.out)) hb); have n3_ := qk5 (hbox); have n4_ := qk5 ((by rw [hg]; exact (qm5 (by repeat (first | (with_reducible first | exact HB.out | apply qg5 | apply qh5 | apply qi5 | refine qj5 ?_ GE164.out | refine qj5 ?_ GE165.out) | exact HB.out))) : w.heap.size ≤ gb166)); have n5_ := qk5 ((by rw [hg]; exact (qm5 (by repeat (first | (with_reducible first | exact HB.out | apply qg5 | apply qh5 | apply qi5 | refine qj5 ?_ GE164.out | refine qj5 ?_ GE165.out) | exact HB.out))) : w.heap.size ≤ gb166)); have n6_ := qk5 ((by rw [hg]; exact Nat.ne_of_lt (blk_lt (g := gb164) (o := .cells #[.string a0_0, .int .i64 a0_1] 30 (0, 0)) (by (with_reducible repeat (first | apply qa5 | apply qb5 | apply qc5)); exact BK164.out)) : gb164 ≠ gb166)); have n7_ := qk5 ((by rw [hg]; exact Nat.ne_of_gt (blk_lt (g := gb164) (o := .cells #[.string a0_0, .int .i64 a0_1] 30 (0, 0)) (by (with_reducible repeat (first | apply qa5 | apply qb5 | apply qc5)); exact BK164.out)) : gb166 ≠ gb164)); have n8_ := qk5 ((by rw [hg]; exact Nat.ne_of_lt (blk_lt (g := gb165) (o := .cells #[.string (⟨#[]⟩ : ByteArray), .int .i64 0] 30 (0, 0)) (by (with_reducible repeat (first | apply qa5 | apply qb5 | apply qc5)); exact BK165.out)) : gb165 ≠ gb166)); have n9_ := qk5 ((by rw [hg]; exact Nat.ne_of_gt (blk_lt (g := gb165) (o := .cells #[.string (⟨#[]⟩ : ByteArray), .int .i64 0] 30 (0, 0)) (by (with_reducible repeat (first | apply qa5 | apply qb5 | apply qc5)); exact BK165.out)) : gb166 ≠ gb165)); clear BK164; clear BK165; clear HB; have BK164 := n0_; have BK165 := n1_; have HB := n2_; have BK166 := n3_; have GW166 := n4_; have GE166 := n5_; have NB164_166 := n6_; have NB166_164 := n7_; have NB165_166 := n8_; have NB166_165 := n9_; clear n0_ n1_ n2_ n3_ n4_ n5_ n6_ n7_ n8_ n9_; clear hb hbox hg; have hnb7 := NB165_164.out; have hnc7 := NB164_165.out; have hnb8 := NB165_166.out; have hnc8 := NB166_165.out; have hcz9_0 : w6.cell? ⟨gb165, 0, none⟩ = some (.string (⟨#[]⟩ : ByteArray)) := (blk_cell BK165.out 0).trans rfl; have hcz9_1 : w6.cell? ⟨gb165, 1, none⟩ = some (.int .i64 0) := (blk_cell BK165.out 1).trans rfl; have hfz9_0 := blk_frozen BK165.out 0; have hfz9_1 := blk_frozen BK165.out 1; have hnb10 := NB166_164.out; have hnc10 := NB164_166.out; have hcz11_0 : w6.cell? ⟨gb166, 0, none⟩ = some (.int .i64 0) := (blk_cell BK166.out 0).trans rfl; have hcz11_1 : w6.cell? ⟨gb166, 1, none⟩ = some (.slice none 0 0) := (blk_cell BK166.out 1).trans rfl; have hcz11_2 : w6.cell? ⟨gb166, 2, none⟩ = some (.slice none 0 0) := (blk_cell BK166.out 2).trans rfl; have hcz11_3 : w6.cell? ⟨gb166, 3, none⟩ = some (.slice none 0 0) := (blk_cell BK166.out 3).trans rfl; have hfz11_0 := blk_frozen BK166.out 0; have hfz11_1 := blk_frozen BK166.out 1; have hfz11_2 := blk_frozen BK166.out 2; have hfz11_3 := blk_frozen BK166.out 3))
    refine bodyPost_ret (results_list (rs := [.cell 4 30, .cell 5 33, .tmp 6]) rfl (by simp) (.cell gb165 30 #[.string (⟨#[]⟩ : ByteArray), .int .i64 0] (0, 0) _ rfl (by (with_reducible repeat (first | apply qa5 | apply qb5 | apply qc5)); refine blk_far ?_ NB165_166.out _; (with_reducible repeat (first | apply qa5 | apply qb5 | apply qc5)); refine blk_far ?_ NB165_166.out _; (with_reducible repeat (first | apply qa5 | apply qb5 | apply qc5)); refine blk_far ?_ NB165_166.out _; (with_reducible repeat (first | apply qa5 | apply qb5 | apply qc5)); refine blk_far ?_ NB165_166.out _; (with_reducible repeat (first | apply qa5 | apply qb5 | apply qc5)); refine blk_put (cs := #[.string (⟨#[]⟩ : ByteArray), .int .i64 0]) ?_ 1 _ rfl; (with_reducible repeat (first | apply qa5 | apply qb5 | apply qc5)); refine blk_put (cs := #[.string (⟨#[]⟩ : ByteArray), .int .i64 0]) ?_ 0 _ rfl; (with_reducible repeat (first | apply qa5 | apply qb5 | apply qc5)); exact BK165.out) Tryd.underlying30 rfl (by kernel_rfl) (.cell gb166 33 #[.int .i64 0, .slice none 0 0, .slice none 0 0, .slice none 0 0] (0, 0) _ rfl (by (with_reducible repeat (first | apply qa5 | apply qb5 | apply qc5)); refine blk_put (cs := #[.int .i64 0, .slice none 0 0, .slice none 0 0, .slice none 0 0]) ?_ 3 _ rfl; (with_reducible repeat (first | apply qa5 | apply qb5 | apply qc5)); refine blk_put (cs := #[.int .i64 0, .slice none 0 0, .slice none 0 0, .slice none 0 0]) ?_ 2 _ rfl; (with_reducible repeat (first | apply qa5 | apply qb5 | apply qc5)); refine blk_put (cs := #[.int .i64 0, .slice none 0 0, .slice none 0 0, .slice none 0 0]) ?_ 1 _ rfl; (with_reducible repeat (first | apply qa5 | apply qb5 | apply qc5)); refine blk_put (cs := #[.int .i64 0, .slice none 0 0, .slice none 0 0, .slice none 0 0]) ?_ 0 _ rfl; (with_reducible repeat (first | apply qa5 | apply qb5 | apply qc5)); refine blk_far ?_ NB166_165.out _; (with_reducible repeat (first | apply qa5 | apply qb5 | apply qc5)); refine blk_far ?_ NB166_165.out _; (with_reducible repeat (first | apply qa5 | apply qb5 | apply qc5)); exact BK166.out) Tryd.underlying33 rfl (by kernel_rfl) (.tmp .nil)))) rfl ?_
    exact ⟨_, _, _, by first | rfl | (simp [errW_none, errW_some] <;> rfl) | (simp [*, errW_none, errW_some] <;> rfl), by first | exact Kd.R_nil _ _ _ _ _ | exact Kd.N_nil _ _ _ _ _ | exact Kd.V_nil _ _ _ _ _ | exact Kd.Q_nil _ _ _ _ _ | exact Kd.S_nil _ _ _ _ _, by first | exact Kd.R_nil _ _ _ _ _ | exact Kd.N_nil _ _ _ _ _ | exact Kd.V_nil _ _ _ _ _ | exact Kd.Q_nil _ _ _ _ _ | exact Kd.S_nil _ _ _ _ _, by first | exact Kd.R_nil _ _ _ _ _ | exact Kd.N_nil _ _ _ _ _ | exact Kd.V_nil _ _ _ _ _ | exact Kd.Q_nil _ _ _ _ _ | exact Kd.S_nil _ _ _ _ _, by repeat (first | (with_reducible first | exact HB.out | apply qg5 | apply qh5 | apply qi5 | refine qj5 ?_ GE164.out | refine qj5 ?_ GE165.out | refine qj5 ?_ GE166.out) | exact HB.out)⟩
  · rw [if_neg c3] at H
    have c3b0 : decide (65530 < (a1.size : Int)) = false := decide_eq_false c3
    have c3b1 : decide (65530 < a1.size) = false := decide_eq_false (by omega)
    clear c3
    replace H := Option.bind_eq_some_iff.mp H
    obtain ⟨t167, A120, H⟩ := H
    replace H : (if t167 = true then (if a0_1 = 8 then (some (a0_0, a0_1, 0, ([] : List ByteArray), ([] : List ByteArray), ([] : List ByteArray), 13)) else ((impl_signAt.f k a0_0 a0_1 a1).bind fun bt168 => (some (a0_0, wrap64 (a0_1 + 1), bt168.1, bt168.2.1, bt168.2.2.1, bt168.2.2.2, 0)))) else (some ((⟨#[]⟩ : ByteArray), 0, 0, ([] : List ByteArray), ([] : List ByteArray), ([] : List ByteArray), 1))) = some (r1, r2, r3, r4, r5, r6, r7) := H
    have A12 := qk5 A120
    clear A120
    by_cases c13 : t167 = true
    · subst c13
      have H1 : (if a0_1 = 8 then (some (a0_0, a0_1, 0, ([] : List ByteArray), ([] : List ByteArray), ([] : List ByteArray), 13)) else ((impl_signAt.f k a0_0 a0_1 a1).bind fun bt168 => (some (a0_0, wrap64 (a0_1 + 1), bt168.1, bt168.2.1, bt168.2.2.1, bt168.2.2.2, 0)))) = some (r1, r2, r3, r4, r5, r6, r7) := by rw [if_pos rfl] at H; exact H
      clear H
      have H := H1
      clear H1
      by_cases c14 : a0_1 = 8
      · rw [if_pos c14] at H
        have c14b0 : (a0_1 == 8) = true := beq_iff_eq.mpr c14
        have c14b1 : (a0_1 != 8) = false := bne_eq_false_iff_eq.mpr c14
        clear c14
        simp only [Option.some.injEq, Prod.mk.injEq] at H
        obtain ⟨rfl, rfl, rfl, rfl, rfl, rfl, rfl⟩ := H
        go_enter Tryd.func19, Tryd.ntmps19
        go_wp2_with (first | ((with_reducible refine gate_dst (N := 2) rfl ?_); refine box_event ?hg (N := 2) ?hd (cs := #[.string a0_0, .int .i64 a0_1]) (t := 30) ?hr ?_; (case hd => rfl); (case hg => rfl); (case hr => first | (go_simp; done) | (go_simp; rfl)); intro gb164 hg w15 hbox hb; have n0_ := qk5 (ql5 (by repeat (first | (with_reducible first | exact HB.out | apply qg5 | apply qh5 | apply qi5) | exact HB.out)) hb); have n1_ := qk5 (hbox); have n2_ := qk5 ((by rw [hg]; exact (qm5 (by repeat (first | (with_reducible first | exact HB.out | apply qg5 | apply qh5 | apply qi5) | exact HB.out))) : w.heap.size ≤ gb164)); have n3_ := qk5 ((by rw [hg]; exact (qm5 (by repeat (first | (with_reducible first | exact HB.out | apply qg5 | apply qh5 | apply qi5) | exact HB.out))) : w.heap.size ≤ gb164)); clear HB; have HB := n0_; have BK164 := n1_; have GW164 := n2_; have GE164 := n3_; clear n0_ n1_ n2_ n3_; clear hb hbox hg) | ((with_reducible refine gate_dst (N := 4) rfl ?_); refine box_event ?hg (N := 4) ?hd (cs := #[.string (⟨#[]⟩ : ByteArray), .int .i64 0]) (t := 30) ?hr ?_; (case hd => rfl); (case hg => rfl); (case hr => first | (go_simp; done) | (go_simp; rfl)); intro gb165 hg w16 hbox hb; have n0_ := qk5 (blk_below (g := gb164) (o := .cells #[.string a0_0, .int .i64 a0_1] 30 (0, 0)) (by (with_reducible repeat (first | apply qa5 | apply qb5 | apply qc5)); exact BK164.out) hb); have n1_ := qk5 (ql5 (by repeat (first | (with_reducible first | exact HB.out | apply qg5 | apply qh5 | apply qi5 | refine qj5 ?_ GE164.out) | exact HB.out)) hb); have n2_ := qk5 (hbox); have n3_ := qk5 ((by rw [hg]; exact (qm5 (by repeat (first | (with_reducible first | exact HB.out | apply qg5 | apply qh5 | apply qi5 | refine qj5 ?_ GE164.out) | exact HB.out))) : w.heap.size ≤ gb165)); have n4_ := qk5 ((by rw [hg]; exact (qm5 (by repeat (first | (with_reducible first | exact HB.out | apply qg5 | apply qh5 | apply qi5 | refine qj5 ?_ GE164.out) | exact HB.out))) : w.heap.size ≤ gb165)); have n5_ := qk5 ((by rw [hg]; exact Nat.ne_of_lt (blk_lt (g := gb164) (o := .cells #[.string a0_0, .int .i64 a0_1] 30 (0, 0)) (by (with_reducible repeat (first | apply qa5 | apply qb5 | apply qc5)); exact BK164.out)) : gb164 ≠ gb165)); have n6_ := qk5 ((by rw [hg]; exact Nat.ne_of_gt (blk_lt (g := gb164) (o := .cells #[.string a0_0, .int .i64 a0_1] 30 (0, 0)) (by (with_reducible repeat (first | apply qa5 | apply qb5 | apply qc5)); exact BK164.out)) : gb165 ≠ gb164)); clear BK164; clear HB; have BK164 := n0_; have HB := n1_; have BK165 := n2_; have GW165 := n3_; have GE165 := n4_; have NB164_165 := n5_; have NB165_164 := n6_; clear n0_ n1_ n2_ n3_ n4_ n5_ n6_; clear hb hbox hg) | ((with_reducible refine gate_dst (N := 5) rfl ?_); refine box_event ?hg (N := 5) ?hd (cs := #[.int .i64 0, .slice none 0 0, .slice none 0 0, .slice none 0 0]) (t := 33) ?hr ?_; (case hd => rfl); (case hg => rfl); (case hr => first | (go_simp; done) | (go_simp; rfl)); intro gb166 hg w17 hbox hb; have n0_ := qk5 (blk_below (g := gb164) (o := .cells #[.string a0_0, .int .i64 a0_1] 30 (0, 0)) (by (with_reducible repeat (first | apply qa5 | apply qb5 | apply qc5)); exact BK164.out) hb); have n1_ := qk5 (blk_below (g := gb165) (o := .cells #[.string (⟨#[]⟩ : ByteArray), .int .i64 0] 30 (0, 0)) (by (with_reducible repeat (first | apply qa5 | apply qb5 | apply qc5)); exact BK165.out) hb); have n2_ := qk5 (ql5 (by repeat (first | (with_reducible first | exact HB.out | apply qg5 | apply qh5 | apply qi5 | refine qj5 ?_ GE164.out | refine qj5 ?_ GE165.out) | exact HB.out)) hb); have n3_ := qk5 (hbox); have n4_ := qk5 ((by rw [hg]; exact (qm5 (by repeat (first | (with_reducible first | exact HB.out | apply qg5 | apply qh5 | apply qi5 | refine qj5 ?_ GE164.out | refine qj5 ?_ GE165.out) | exact HB.out))) : w.heap.size ≤ gb166)); have n5_ := qk5 ((by rw [hg]; exact (qm5 (by repeat (first | (with_reducible first | exact HB.out | apply qg5 | apply qh5 | apply qi5 | refine qj5 ?_ GE164.out | refine qj5 ?_ GE165.out) | exact HB.out))) : w.heap.size ≤ gb166)); have n6_ := qk5 ((by rw [hg]; exact Nat.ne_of_lt (blk_lt (g := gb164) (o := .cells #[.string a0_0, .int .i64 a0_1] 30 (0, 0)) (by (with_reducible repeat (first | apply qa5 | apply qb5 | apply qc5)); exact BK164.out)) : gb164 ≠ gb166)); have n7_ := qk5 ((by rw [hg]; exact Nat.ne_of_gt (blk_lt (g := gb164) (o := .cells #[.string a0_0, .int .i64 a0_1] 30 (0, 0)) (by (with_reducible repeat (first | apply qa5 | apply qb5 | apply qc5)); exact BK164.out)) : gb166 ≠ gb164)); have n8_ := qk5 ((by rw [hg]; exact Nat.ne_of_lt (blk_lt (g := gb165) (o := .cells #[.string (⟨#[]⟩ : ByteArray), .int .i64 0] 30 (0, 0)) (by (with_reducible repeat (first | apply qa5 | apply qb5 | apply qc5)); exact BK165.out)) : gb165 ≠ gb166)); have n9_ := qk5 ((by rw [hg]; exact Nat.ne_of_gt (blk_lt (g := gb165) (o := .cells #[.string (⟨#[]⟩ : ByteArray), .int .i64 0] 30 (0, 0)) (by (with_reducible repeat (first | apply qa5 | apply qb5 | apply qc5)); exact BK165.out)) : gb166 ≠ gb165)); clear BK164; clear BK165; clear HB; have BK164 := n0_; have BK165 := n1_; have HB := n2_; have BK166 := n3_; have GW166 := n4_; have GE166 := n5_; have NB164_166 := n6_; have NB166_164 := n7_; have NB165_166 := n8_; have NB166_165 := n9_; clear n0_ n1_ n2_ n3_ n4_ n5_ n6_ n7_ n8_ n9_; clear hb hbox hg; have hnb18 := NB164_165.out; have hnc18 := NB165_164.out; have hnb19 := NB164_166.out; have hnc19 := NB166_164.out; have hcz20_0 : w17.cell? ⟨gb164, 0, none⟩ = some (.string a0_0) := (blk_cell BK164.out 0).trans rfl; have hcz20_1 : w17.cell? ⟨gb164, 1, none⟩ = some (.int .i64 a0_1) := (blk_cell BK164.out 1).trans rfl; have hfz20_0 := blk_frozen BK164.out 0; have hfz20_1 := blk_frozen BK164.out 1) | ((with_reducible refine gate_callee (f := 22) rfl ?_); refine goesL_ (some 15) rfl rfl Tryd.func22 (by kernel_rfl) rfl #[.agg #[.string a0_0, .int .i64 a0_1]] rfl (by (try simp only [List.map_toArray, List.map_cons, List.map_nil]); first | done | rfl | (simp only [List.length_drop, List.length_take]; rfl)) ?_; (with_reducible refine (impl_KeyChainOK.calls a0_0 a0_1 true _ A12.out).mono ?_); rintro e w21 ⟨rfl, hb⟩; refine ⟨_, rfl, ?_⟩; have n0_ := qk5 (blk_below (g := gb164) (o := .cells #[.string a0_0, .int .i64 a0_1] 30 (0, 0)) (by (with_reducible repeat (first | apply qa5 | apply qb5 | apply qc5)); exact BK164.out) hb); have n1_ := qk5 (blk_below (g := gb165) (o := .cells #[.string (⟨#[]⟩ : ByteArray), .int .i64 0] 30 (0, 0)) (by (with_reducible repeat (first | apply qa5 | apply qb5 | apply qc5)); exact BK165.out) hb); have n2_ := qk5 (blk_below (g := gb166) (o := .cells #[.int .i64 0, .slice none 0 0, .slice none 0 0, .slice none 0 0] 33 (0, 0)) (by (with_reducible repeat (first | apply qa5 | apply qb5 | apply qc5)); exact BK166.out) hb); have n3_ := qk5 (ql5 (by repeat (first | (with_reducible first | exact HB.out | apply qg5 | apply qh5 | apply qi5 | refine qj5 ?_ GE164.out | refine qj5 ?_ GE165.out | refine qj5 ?_ GE166.out) | exact HB.out)) hb); clear BK164; clear BK165; clear BK166; clear HB; have BK164 := n0_; have BK165 := n1_; have BK166 := n2_; have HB := n3_; clear n0_ n1_ n2_ n3_; (try clear hb); (try clear hb2); (try clear hk); (try clear hi); have hcz22_0 : w21.cell? ⟨gb164, 0, none⟩ = some (.string a0_0) := (blk_cell BK164.out 0).trans rfl; have hcz22_1 : w21.cell? ⟨gb164, 1, none⟩ = some (.int .i64 a0_1) := (blk_cell BK164.out 1).trans rfl; have hfz22_0 := blk_frozen BK164.out 0; have hfz22_1 := blk_frozen BK164.out 1; have hnb23 := NB165_166.out; have hnc23 := NB166_165.out; have hcz24_0 : w21.cell? ⟨gb165, 0, none⟩ = some (.string (⟨#[]⟩ : ByteArray)) := (blk_cell BK165.out 0).trans rfl; have hcz24_1 : w21.cell? ⟨gb165, 1, none⟩ = some (.int .i64 0) := (blk_cell BK165.out 1).trans rfl; have hfz24_0 := blk_frozen BK165.out 0; have hfz24_1 := blk_frozen BK165.out 1; have hcz25_0 : w21.cell? ⟨gb166, 0, none⟩ = some (.int .i64 0) := (blk_cell BK166.out 0).trans rfl; have hcz25_1 : w21.cell? ⟨gb166, 1, none⟩ = some (.slice none 0 0) := (blk_cell BK166.out 1).trans rfl; have hcz25_2 : w21.cell? ⟨gb166, 2, none⟩ = some (.slice none 0 0) := (blk_cell BK166.out 2).trans rfl; have hcz25_3 : w21.cell? ⟨gb166, 3, none⟩ = some (.slice none 0 0) := (blk_cell BK166.out 3).trans rfl; have hfz25_0 := blk_frozen BK166.out 0; have hfz25_1 := blk_frozen BK166.out 1; have hfz25_2 := blk_frozen BK166.out 2; have hfz25_3 := blk_frozen BK166.out 3))
        refine bodyPost_ret (results_list (rs := [.cell 4 30, .cell 5 33, .tmp 6]) rfl (by simp) (.cell gb165 30 #[.string a0_0, .int .i64 a0_1] (0, 0) _ rfl (by (with_reducible repeat (first | apply qa5 | apply qb5 | apply qc5)); refine blk_far ?_ NB165_166.out _; (with_reducible repeat (first | apply qa5 | apply qb5 | apply qc5)); refine blk_far ?_ NB165_166.out _; (with_reducible repeat (first | apply qa5 | apply qb5 | apply qc5)); refine blk_far ?_ NB165_166.out _; (with_reducible repeat (first | apply qa5 | apply qb5 | apply qc5)); refine blk_far ?_ NB165_166.out _; (with_reducible repeat (first | apply qa5 | apply qb5 | apply qc5)); refine blk_put (cs := #[.string a0_0, .int .i64 0]) ?_ 1 _ rfl; (with_reducible repeat (first | apply qa5 | apply qb5 | apply qc5)); refine blk_put (cs := #[.string (⟨#[]⟩ : ByteArray), .int .i64 0]) ?_ 0 _ rfl; (with_reducible repeat (first | apply qa5 | apply qb5 | apply qc5)); exact BK165.out) Tryd.underlying30 rfl (by kernel_rfl) (.cell gb166 33 #[.int .i64 0, .slice none 0 0, .slice none 0 0, .slice none 0 0] (0, 0) _ rfl (by (with_reducible repeat (first | apply qa5 | apply qb5 | apply qc5)); refine blk_put (cs := #[.int .i64 0, .slice none 0 0, .slice none 0 0, .slice none 0 0]) ?_ 3 _ rfl; (with_reducible repeat (first | apply qa5 | apply qb5 | apply qc5)); refine blk_put (cs := #[.int .i64 0, .slice none 0 0, .slice none 0 0, .slice none 0 0]) ?_ 2 _ rfl; (with_reducible repeat (first | apply qa5 | apply qb5 | apply qc5)); refine blk_put (cs := #[.int .i64 0, .slice none 0 0, .slice none 0 0, .slice none 0 0]) ?_ 1 _ rfl; (with_reducible repeat (first | apply qa5 | apply qb5 | apply qc5)); refine blk_put (cs := #[.int .i64 0, .slice none 0 0, .slice none 0 0, .slice none 0 0]) ?_ 0 _ rfl; (with_reducible repeat (first | apply qa5 | apply qb5 | apply qc5)); refine blk_far ?_ NB166_165.out _; (with_reducible repeat (first | apply qa5 | apply qb5 | apply qc5)); refine blk_far ?_ NB166_165.out _; (with_reducible repeat (first | apply qa5 | apply qb5 | apply qc5)); exact BK166.out) Tryd.underlying33 rfl (by kernel_rfl) (.tmp .nil)))) rfl ?_
        exact ⟨_, _, _, by first | rfl | (simp [errW_none, errW_some] <;> rfl) | (simp [*, errW_none, errW_some] <;> rfl), by first | exact Kd.R_nil _ _ _ _ _ | exact Kd.N_nil _ _ _ _ _ | exact Kd.V_nil _ _ _ _ _ | exact Kd.Q_nil _ _ _ _ _ | exact Kd.S_nil _ _ _ _ _, by first | exact Kd.R_nil _ _ _ _ _ | exact Kd.N_nil _ _ _ _ _ | exact Kd.V_nil _ _ _ _ _ | exact Kd.Q_nil _ _ _ _ _ | exact Kd.S_nil _ _ _ _ _, by first | exact Kd.R_nil _ _ _ _ _ | exact Kd.N_nil _ _ _ _ _ | exact Kd.V_nil _ _ _ _ _ | exact Kd.Q_nil _ _ _ _ _ | exact Kd.S_nil _ _ _ _ _, by repeat (first | (with_reducible first | exact HB.out | apply qg5 | apply qh5 | apply qi5 | refine qj5 ?_ GE164.out | refine qj5 ?_ GE165.out | refine qj5 ?_ GE166.out) | exact HB.out)⟩
      · rw [if_neg c14] at H
        have c14b0 : (a0_1 == 8) = false := beq_eq_false_iff_ne.mpr c14
        have c14b1 : (a0_1 != 8) = true := bne_iff_ne.mpr c14
        replace H := Option.bind_eq_some_iff.mp H
        obtain ⟨⟨t168, t169, t172, t175⟩, A260, H⟩ := H
        replace H : (some (a0_0, wrap64 (a0_1 + 1), t168, t169, t172, t175, 0)) = some (r1, r2, r3, r4, r5, r6, r7) := H
        have A26 := qk5 A260
        clear A260
        simp only [Option.some.injEq, Prod.mk.injEq] at H
        obtain ⟨rfl, rfl, rfl, rfl, rfl, rfl, rfl⟩ := H
        go_enter Tryd.func19, Tryd.ntmps19
        try go_wp2_with (first | ((with_reducible refine gate_dst (N := 2) rfl ?_); refine box_event ?hg (N := 2) ?hd (cs := #[.string a0_0, .int .i64 a0_1]) (t := 30) ?hr ?_; (case hd => rfl); (case hg => rfl); (case hr => first | (go_simp; done) | (go_simp; rfl)); intro gb164 hg w27 hbox hb; have n0_ := qk5 (ql5 (by repeat (first | (with_reducible first | exact HB.out | apply qg5 | apply qh5 | apply qi5) | exact HB.out)) hb); have n1_ := qk5 (hbox); have n2_ := qk5 ((by rw [hg]; exact (qm5 (by repeat (first | (with_reducible first | exact HB.out | apply qg5 | apply qh5 | apply qi5) | exact HB.out))) : w.heap.size ≤ gb164)); have n3_ := qk5 ((by rw [hg]; exact (qm5 (by repeat (first | (with_reducible first | exact HB.out | apply qg5 | apply qh5 | apply qi5) | exact HB.out))) : w.heap.size ≤ gb164)); clear HB; have HB := n0_; have BK164 := n1_; have GW164 := n2_; have GE164 := n3_; clear n0_ n1_ n2_ n3_; clear hb hbox hg) | ((with_reducible refine gate_dst (N := 4) rfl ?_); refine box_event ?hg (N := 4) ?hd (cs := #[.string (⟨#[]⟩ : ByteArray), .int .i64 0]) (t := 30) ?hr ?_; (case hd => rfl); (case hg => rfl); (case hr => first | (go_simp; done) | (go_simp; rfl)); intro gb165 hg w28 hbox hb; have n0_ := qk5 (blk_below (g := gb164) (o := .cells #[.string a0_0, .int .i64 a0_1] 30 (0, 0)) (by (with_reducible repeat (first | apply qa5 | apply qb5 | apply qc5)); exact BK164.out) hb); have n1_ := qk5 (ql5 (by repeat (first | (with_reducible first | exact HB.out | apply qg5 | apply qh5 | apply qi5 | refine qj5 ?_ GE164.out) | exact HB.out)) hb); have n2_ := qk5 (hbox); have n3_ := qk5 ((by rw [hg]; exact (qm5 (by repeat (first | (with_reducible first | exact HB.out | apply qg5 | apply qh5 | apply qi5 | refine qj5 ?_ GE164.out) | exact HB.out))) : w.heap.size ≤ gb165)); have n4_ := qk5 ((by rw [hg]; exact (qm5 (by repeat (first | (with_reducible first | exact HB.out | apply qg5 | apply qh5 | apply qi5 | refine qj5 ?_ GE164.out) | exact HB.out))) : w.heap.size ≤ gb165)); have n5_ := qk5 ((by rw [hg]; exact Nat.ne_of_lt (blk_lt (g := gb164) (o := .cells #[.string a0_0, .int .i64 a0_1] 30 (0, 0)) (by (with_reducible repeat (first | apply qa5 | apply qb5 | apply qc5)); exact BK164.out)) : gb164 ≠ gb165)); have n6_ := qk5 ((by rw [hg]; exact Nat.ne_of_gt (blk_lt (g := gb164) (o := .cells #[.string a0_0, .int .i64 a0_1] 30 (0, 0)) (by (with_reducible repeat (first | apply qa5 | apply qb5 | apply qc5)); exact BK164.out)) : gb165 ≠ gb164)); clear BK164; clear HB; have BK164 := n0_; have HB := n1_; have BK165 := n2_; have GW165 := n3_; have GE165 := n4_; have NB164_165 := n5_; have NB165_164 := n6_; clear n0_ n1_ n2_ n3_ n4_ n5_ n6_; clear hb hbox hg) | ((with_reducible refine gate_dst (N := 5) rfl ?_); refine box_event ?hg (N := 5) ?hd (cs := #[.int .i64 0, .slice none 0 0, .slice none 0 0, .slice none 0 0]) (t := 33) ?hr ?_; (case hd => rfl); (case hg => rfl); (case hr => first | (go_simp; done) | (go_simp; rfl)); intro gb166 hg w29 hbox hb; have n0_ := qk5 (blk_below (g := gb164) (o := .cells #[.string a0_0, .int .i64 a0_1] 30 (0, 0)) (by (with_reducible repeat (first | apply qa5 | apply qb5 | apply qc5)); exact BK164.out) hb); have n1_ := qk5 (blk_below (g := gb165) (o := .cells #[.string (⟨#[]⟩ : ByteArray), .int .i64 0] 30 (0, 0)) (by (with_reducible repeat (first | apply qa5 | apply qb5 | apply qc5)); exact BK165.out) hb); have n2_ := qk5 (ql5 (by repeat (first | (with_reducible first | exact HB.out | apply qg5 | apply qh5 | apply qi5 | refine qj5 ?_ GE164.out | refine qj5 ?_ GE165.out) | exact HB.out)) hb); have n3_ := qk5 (hbox); have n4_ := qk5 ((by rw [hg]; exact (qm5 (by repeat (first | (with_reducible first | exact HB.out | apply qg5 | apply qh5 | apply qi5 | refine qj5 ?_ GE164.out | refine qj5 ?_ GE165.out) | exact HB.out))) : w.heap.size ≤ gb166)); have n5_ := qk5 ((by rw [hg]; exact (qm5 (by repeat (first | (with_reducible first | exact HB.out | apply qg5 | apply qh5 | apply qi5 | refine qj5 ?_ GE164.out | refine qj5 ?_ GE165.out) | exact HB.out))) : w.heap.size ≤ gb166)); have n6_ := qk5 ((by rw [hg]; exact Nat.ne_of_lt (blk_lt (g := gb164) (o := .cells #[.string a0_0, .int .i64 a0_1] 30 (0, 0)) (by (with_reducible repeat (first | apply qa5 | apply qb5 | apply qc5)); exact BK164.out)) : gb164 ≠ gb166)); have n7_ := qk5 ((by rw [hg]; exact Nat.ne_of_gt (blk_lt (g := gb164) (o := .cells #[.string a0_0, .int .i64 a0_1] 30 (0, 0)) (by (with_reducible repeat (first | apply qa5 | apply qb5 | apply qc5)); exact BK164.out)) : gb166 ≠ gb164)); have n8_ := qk5 ((by rw [hg]; exact Nat.ne_of_lt (blk_lt (g := gb165) (o := .cells #[.string (⟨#[]⟩ : ByteArray), .int .i64 0] 30 (0, 0)) (by (with_reducible repeat (first | apply qa5 | apply qb5 | apply qc5)); exact BK165.out)) : gb165 ≠ gb166)); have n9_ := qk5 ((by rw [hg]; exact Nat.ne_of_gt (blk_lt (g := gb165) (o := .cells #[.string (⟨#[]⟩ : ByteArray), .int .i64 0] 30 (0, 0)) (by (with_reducible repeat (first | apply qa5 | apply qb5 | apply qc5)); exact BK165.out)) : gb166 ≠ gb165)); clear BK164; clear BK165; clear HB; have BK164 := n0_; have BK165 := n1_; have HB := n2_; have BK166 := n3_; have GW166 := n4_; have GE166 := n5_; have NB164_166 := n6_; have NB166_164 := n7_; have NB165_166 := n8_; have NB166_165 := n9_; clear n0_ n1_ n2_ n3_ n4_ n5_ n6_ n7_ n8_ n9_; clear hb hbox hg; have hnb30 := NB164_165.out; have hnc30 := NB165_164.out; have hnb31 := NB164_166.out; have hnc31 := NB166_164.out; have hcz32_0 : w29.cell? ⟨gb164, 0, none⟩ = some (.string a0_0) := (blk_cell BK164.out 0).trans rfl; have hcz32_1 : w29.cell? ⟨gb164, 1, none⟩ = some (.int .i64 a0_1) := (blk_cell BK164.out 1).trans rfl; have hfz32_0 := blk_frozen BK164.out 0; have hfz32_1 := blk_frozen BK164.out 1) | ((with_reducible refine gate_callee (f := 22) rfl ?_); refine goesL_ (some 15) rfl rfl Tryd.func22 (by kernel_rfl) rfl #[.agg #[.string a0_0, .int .i64 a0_1]] rfl (by (try simp only [List.map_toArray, List.map_cons, List.map_nil]); first | done | rfl | (simp only [List.length_drop, List.length_take]; rfl)) ?_; (with_reducible refine (impl_KeyChainOK.calls a0_0 a0_1 true _ A12.out).mono ?_); rintro e w33 ⟨rfl, hb⟩; refine ⟨_, rfl, ?_⟩; have n0_ := qk5 (blk_below (g := gb164) (o := .cells #[.string a0_0, .int .i64 a0_1] 30 (0, 0)) (by (with_reducible repeat (first | apply qa5 | apply qb5 | apply qc5)); exact BK164.out) hb); have n1_ := qk5 (blk_below (g := gb165) (o := .cells #[.string (⟨#[]⟩ : ByteArray), .int .i64 0] 30 (0, 0)) (by (with_reducible repeat (first | apply qa5 | apply qb5 | apply qc5)); exact BK165.out) hb); have n2_ := qk5 (blk_below (g := gb166) (o := .cells #[.int .i64 0, .slice none 0 0, .slice none 0 0, .slice none 0 0] 33 (0, 0)) (by (with_reducible repeat (first | apply qa5 | apply qb5 | apply qc5)); exact BK166.out) hb); have n3_ := qk5 (ql5 (by repeat (first | (with_reducible first | exact HB.out | apply qg5 | apply qh5 | apply qi5 | refine qj5 ?_ GE164.out | refine qj5 ?_ GE165.out | refine qj5 ?_ GE166.out) | exact HB.out)) hb); clear BK164; clear BK165; clear BK166; clear HB; have BK164 := n0_; have BK165 := n1_; have BK166 := n2_; have HB := n3_; clear n0_ n1_ n2_ n3_; (try clear hb); (try clear hb2); (try clear hk); (try clear hi); have hcz34_0 : w33.cell? ⟨gb164, 0, none⟩ = some (.string a0_0) := (blk_cell BK164.out 0).trans rfl; have hcz34_1 : w33.cell? ⟨gb164, 1, none⟩ = some (.int .i64 a0_1) := (blk_cell BK164.out 1).trans rfl; have hfz34_0 := blk_frozen BK164.out 0; have hfz34_1 := blk_frozen BK164.out 1))
        have n0_ := qk5 (qb5 BK164.out)
        have n1_ := qk5 (qb5 BK165.out)
        have n2_ := qk5 (qb5 BK166.out)
        have n3_ := qk5 (qi5 HB.out)
        clear BK164
        clear BK165
        clear BK166
        clear HB
        have BK164 := n0_
        have BK165 := n1_
        have BK166 := n2_
        have HB := n3_
        clear n0_ n1_ n2_ n3_
        refine start_ (n := 15) (S := fun w' => w'.cell? ⟨gb164, 0, none⟩ = some (.string a0_0) ∧ w'.cell? ⟨gb164, 1, none⟩ = some (.int .i64 a0_1)) (ds := []) #[false, false, false, false, false, false, false, false, false, false, false, false, false, false, false] (by kernel_rfl) rfl rfl ⟨(blk_cell BK164.out 0).trans rfl, (blk_cell BK164.out 1).trans rfl⟩ (fun hHeld => ?_); refine with_tabW impl_SignNext.tab7 impl_SignNext.bits7 (fun HT_ HW_ => ?_)
        generalize w33.drew = w35 at BK164 BK165 BK166 HB hHeld ⊢
        refine pure_ (i := 0) (N := some 25) (v := ?_) (a' := ?_) #[true, false, false, false, false, false, false, false, false, false, false, false, false, false, false] rfl rfl (any_of HT_.out (by kernel_rfl)) (fun _ _ _ h => h) (Or.inl ⟨by rfl, ?_⟩) ?_ ?_
        rotate_left
        · intro w'
          go_simp
          with_reducible rfl
        rotate_left
        · simp only [Act.put, List.setIfInBounds_toArray, List.set_cons_zero, List.set_cons_succ, i64_w, i32_w]
          rfl
        refine pure_ (i := 2) (N := some 27) (v := ?_) (a' := ?_) #[true, false, true, false, false, false, false, false, false, false, false, false, false, false, false] rfl rfl (any_of HT_.out (by kernel_rfl)) (fun _ _ _ h => h) (Or.inl ⟨by rfl, ?_⟩) ?_ ?_
        rotate_left
        · intro w'
          go_simp
          with_reducible rfl
        rotate_left
        · simp only [Act.put, List.setIfInBounds_toArray, List.set_cons_zero, List.set_cons_succ, i64_w, i32_w]
          rfl
        refine pure_ (i := 6) (N := some 31) (v := ?_) (a' := ?_) #[true, false, true, false, false, false, true, false, false, false, false, false, false, false, false] rfl rfl (any_of HT_.out (by kernel_rfl)) (fun _ _ _ h => h) (Or.inl ⟨by rfl, ?_⟩) ?_ ?_
        rotate_left
        · intro w'
          go_simp
          with_reducible rfl
        rotate_left
        · simp only [Act.put, List.setIfInBounds_toArray, List.set_cons_zero, List.set_cons_succ, i64_w, i32_w]
          rfl
        refine pure_ (i := 8) (N := some 33) (v := ?_) (a' := ?_) #[true, false, true, false, false, false, true, false, true, false, false, false, false, false, false] rfl rfl (any_of HT_.out (by kernel_rfl)) (fun _ _ _ h => h) (Or.inl ⟨by rfl, ?_⟩) ?_ ?_
        rotate_left
        · intro w'
          go_simp
          with_reducible rfl
        rotate_left
        · simp only [Act.put, List.setIfInBounds_toArray, List.set_cons_zero, List.set_cons_succ, i64_w, i32_w]
          rfl
        refine pure_ (i := 10) (N := some 35) (v := ?_) (a' := ?_) #[true, false, true, false, false, false, true, false, true, false, true, false, false, false, false] rfl rfl (any_of HT_.out (by kernel_rfl)) (fun _ _ _ h => h) (Or.inl ⟨by rfl, ?_⟩) ?_ ?_
        rotate_left
        · intro w'
          go_simp
          with_reducible rfl
        rotate_left
        · simp only [Act.put, List.setIfInBounds_toArray, List.set_cons_zero, List.set_cons_succ, i64_w, i32_w]
          rfl
        refine take_ (i := 1) (N := some 26) (v := ?_) (a' := ?_) #[true, true, true, false, false, false, true, false, true, false, true, false, false, false, false] rfl rfl (take_ofW HT_.out HW_.out (by kernel_rfl)) (fun _ _ _ h => h) (Or.inl ⟨by rfl, ?_⟩) hHeld ?_ ?_
        rotate_left
        · rintro w' ⟨s0, s1⟩
          go_simp
          with_reducible rfl
        rotate_left
        · simp only [Act.put, List.setIfInBounds_toArray, List.set_cons_zero, List.set_cons_succ, i64_w, i32_w]
          rfl
        refine take_ (i := 3) (N := some 28) (v := ?_) (a' := ?_) #[true, true, true, true, false, false, true, false, true, false, true, false, false, false, false] rfl rfl (take_ofW HT_.out HW_.out (by kernel_rfl)) (fun _ _ _ h => h) (Or.inl ⟨by rfl, ?_⟩) hHeld ?_ ?_
        rotate_left
        · rintro w' ⟨s0, s1⟩
          go_simp
          with_reducible rfl
        rotate_left
        · simp only [Act.put, List.setIfInBounds_toArray, List.set_cons_zero, List.set_cons_succ, i64_w, i32_w]
          rfl
        refine pure_ (i := 4) (N := some 29) (v := ?_) (a' := ?_) #[true, true, true, true, true, false, true, false, true, false, true, false, false, false, false] rfl rfl (any_of HT_.out (by kernel_rfl)) (fun _ _ _ h => h) (Or.inl ⟨by rfl, ?_⟩) ?_ ?_
        rotate_left
        · intro w'
          go_simp
          with_reducible rfl
        rotate_left
        · simp only [Act.put, List.setIfInBounds_toArray, List.set_cons_zero, List.set_cons_succ, i64_w, i32_w]
          rfl
        refine pure_ (i := 5) (N := some 30) (v := ?_) (a' := ?_) #[true, true, true, true, true, true, true, false, true, false, true, false, false, false, false] rfl rfl (any_of HT_.out (by kernel_rfl)) (fun _ _ _ h => h) (Or.inl ⟨by rfl, ?_⟩) ?_ ?_
        rotate_left
        · intro w'
          go_simp
          with_reducible rfl
        rotate_left
        · simp only [Act.put, List.setIfInBounds_toArray, List.set_cons_zero, List.set_cons_succ, i64_w, i32_w]
          rfl
        refine take_ (i := 7) (N := some 32) (v := ?_) (a' := ?_) #[true, true, true, true, true, true, true, true, true, false, true, false, false, false, false] rfl rfl (take_ofW HT_.out HW_.out (by kernel_rfl)) (fun _ _ _ h => h) (Or.inl ⟨by rfl, ?_⟩) hHeld ?_ ?_
        rotate_left
        · rintro w' ⟨s0, s1⟩
          go_simp
          with_reducible rfl
        rotate_left
        · simp only [Act.put, List.setIfInBounds_toArray, List.set_cons_zero, List.set_cons_succ, i64_w, i32_w]
          rfl
        refine take_ (i := 9) (N := some 34) (v := ?_) (a' := ?_) #[true, true, true, true, true, true, true, true, true, true, true, false, false, false, false] rfl rfl (take_ofW HT_.out HW_.out (by kernel_rfl)) (fun _ _ _ h => h) (Or.inl ⟨by rfl, ?_⟩) hHeld ?_ ?_
        rotate_left
        · rintro w' ⟨s0, s1⟩
          go_simp
          with_reducible rfl
        rotate_left
        · simp only [Act.put, List.setIfInBounds_toArray, List.set_cons_zero, List.set_cons_succ, i64_w, i32_w]
          rfl
        refine one_ (i := 11) (N := some 36) #[true, true, true, true, true, true, true, true, true, true, true, true, false, false, false] rfl rfl (one_of HT_.out (by kernel_rfl)) (by decide) (fun K hK => ?_)
        refine goes_ Tryd.func59 (by kernel_rfl) rfl #[.string a0_0, .int .i64 a0_1, .string a1] (by rfl) rfl rfl (by (try simp only [List.map_toArray, List.map_cons, List.map_nil]); first | done | rfl | (simp only [List.length_drop, List.length_take]; rfl)) ?_
        with_reducible refine (impl_signAt.calls k a0_0 a0_1 a1 t168 t169 t172 t175 _ ?side1 A26.out).mono ?_
        (case side1 => exact Go.Proofs.YtmkaknegjahjaaaDoor.Sha.glob_below hG_ (by repeat (first | (with_reducible first | exact HB.out | apply qg5 | apply qh5 | apply qi5 | refine qj5 ?_ GE164.out | refine qj5 ?_ GE165.out | refine qj5 ?_ GE166.out) | exact HB.out)))
        rintro e w36 ⟨v170, v173, v176, rfl, ho0, ho1, ho2, hb⟩
        refine ⟨_, rfl, ?_⟩
        have n0_ := qk5 (Kd.R_lower ho0 (qm5 (by repeat (first | (with_reducible first | exact HB.out | apply qg5 | apply qh5 | apply qi5 | refine qj5 ?_ GE164.out | refine qj5 ?_ GE165.out | refine qj5 ?_ GE166.out) | exact HB.out))))
        have n1_ := qk5 (Kd.R_lower ho1 (qm5 (by repeat (first | (with_reducible first | exact HB.out | apply qg5 | apply qh5 | apply qi5 | refine qj5 ?_ GE164.out | refine qj5 ?_ GE165.out | refine qj5 ?_ GE166.out) | exact HB.out))))
        have n2_ := qk5 (Kd.R_lower ho2 (qm5 (by repeat (first | (with_reducible first | exact HB.out | apply qg5 | apply qh5 | apply qi5 | refine qj5 ?_ GE164.out | refine qj5 ?_ GE165.out | refine qj5 ?_ GE166.out) | exact HB.out))))
        have n3_ := qk5 (blk_below (g := gb164) (o := .cells #[.string a0_0, .int .i64 a0_1] 30 (0, 0)) (by (with_reducible repeat (first | apply qa5 | apply qb5 | apply qc5)); exact BK164.out) hb)
        have n4_ := qk5 (blk_below (g := gb165) (o := .cells #[.string (⟨#[]⟩ : ByteArray), .int .i64 0] 30 (0, 0)) (by (with_reducible repeat (first | apply qa5 | apply qb5 | apply qc5)); exact BK165.out) hb)
        have n5_ := qk5 (blk_below (g := gb166) (o := .cells #[.int .i64 0, .slice none 0 0, .slice none 0 0, .slice none 0 0] 33 (0, 0)) (by (with_reducible repeat (first | apply qa5 | apply qb5 | apply qc5)); exact BK166.out) hb)
        have n6_ := qk5 (ql5 (by repeat (first | (with_reducible first | exact HB.out | apply qg5 | apply qh5 | apply qi5 | refine qj5 ?_ GE164.out | refine qj5 ?_ GE165.out | refine qj5 ?_ GE166.out) | exact HB.out)) hb)
        clear BK164
        clear BK165
        clear BK166
        clear HB
        have HO171 := n0_
        have HO174 := n1_
        have HO177 := n2_
        have BK164 := n3_
        have BK165 := n4_
        have BK166 := n5_
        have HB := n6_
        clear n0_ n1_ n2_ n3_ n4_ n5_ n6_
        (try clear hb)
        (try clear hb2)
        (try clear hk)
        (try clear hi)
        (try clear ho0)
        (try clear ho1)
        (try clear ho2)
        obtain ⟨Ao40, co40, eo40⟩ := Kd.R_slice HO171.out
        (first | subst eo40 | (injection eo40 with f1_ f2_ f3_; have f4_ := f1_.symm; have f5_ := f3_.symm; clear f1_ f2_ f3_; subst f4_; subst f5_))
        obtain ⟨Ao42, co42, eo42⟩ := Kd.R_slice HO174.out
        (first | subst eo42 | (injection eo42 with f1_ f2_ f3_; have f4_ := f1_.symm; have f5_ := f3_.symm; clear f1_ f2_ f3_; subst f4_; subst f5_))
        obtain ⟨Ao44, co44, eo44⟩ := Kd.R_slice HO177.out
        (first | subst eo44 | (injection eo44 with f1_ f2_ f3_; have f4_ := f1_.symm; have f5_ := f3_.symm; clear f1_ f2_ f3_; subst f4_; subst f5_))
        refine hK.out _ _ ⟨(blk_cell BK164.out 0).trans rfl, (blk_cell BK164.out 1).trans rfl⟩ (fun hHeld => ?_)
        clear hK K
        refine norm_ (a' := ?_) ?_ ?_
        rotate_left
        · show Act.put _ (some 36) _ = _
          simp only [Act.put, List.setIfInBounds_toArray, List.set_cons_zero, List.set_cons_succ, i64_w, i32_w]
          rfl
        refine one_ (i := 12) (N := none) #[true, true, true, true, true, true, true, true, true, true, true, true, true, false, false] rfl rfl (one_of HT_.out (by kernel_rfl)) (by decide) (fun K hK => ?_)
        have hs37 : w36.cell? ⟨gb165, 0, none⟩ = some (.string (⟨#[]⟩ : ByteArray)) := (blk_cell BK165.out 0).trans rfl
        have hfs37 := blk_frozen BK165.out 0
        have hns37_0 := NB164_165.out
        have hns37_2 := NB166_165.out
        have hms37_0 := NB165_164.out
        have hms37_2 := NB165_166.out
        have hs38 : w36.cell? ⟨gb165, 1, none⟩ = some (.int .i64 0) := (blk_cell BK165.out 1).trans rfl
        have hfs38 := blk_frozen BK165.out 1
        have hns38_0 := NB164_165.out
        have hns38_2 := NB166_165.out
        have hms38_0 := NB165_164.out
        have hms38_2 := NB165_166.out
        refine skip_ (w1 := ?_) (by rfl) rfl ?_ ?_
        rotate_left
        · go_simp
          rfl
        refine hK.out _ _ ⟨((cell_far (p := ⟨gb165, _, none⟩) NB164_165.out _).trans (((cell_far (p := ⟨gb165, _, none⟩) NB164_165.out _).trans (hHeld.1)))), ((cell_far (p := ⟨gb165, _, none⟩) NB164_165.out _).trans (((cell_far (p := ⟨gb165, _, none⟩) NB164_165.out _).trans (hHeld.2))))⟩ (fun hHeld => ?_)
        clear hK K
        refine one_ (i := 13) (N := none) #[true, true, true, true, true, true, true, true, true, true, true, true, true, true, false] rfl rfl (one_of HT_.out (by kernel_rfl)) (by decide) (fun K hK => ?_)
        have hs39 : w36.cell? ⟨gb166, 0, none⟩ = some (.int .i64 0) := (blk_cell BK166.out 0).trans rfl
        have hfs39 := blk_frozen BK166.out 0
        have hns39_0 := NB164_166.out
        have hns39_1 := NB165_166.out
        have hms39_0 := NB166_164.out
        have hms39_1 := NB166_165.out
        have hs41 : w36.cell? ⟨gb166, 1, none⟩ = some (.slice none 0 0) := (blk_cell BK166.out 1).trans rfl
        have hfs41 := blk_frozen BK166.out 1
        have hns41_0 := NB164_166.out
        have hns41_1 := NB165_166.out
        have hms41_0 := NB166_164.out
        have hms41_1 := NB166_165.out
        have hs43 : w36.cell? ⟨gb166, 2, none⟩ = some (.slice none 0 0) := (blk_cell BK166.out 2).trans rfl
        have hfs43 := blk_frozen BK166.out 2
        have hns43_0 := NB164_166.out
        have hns43_1 := NB165_166.out
        have hms43_0 := NB166_164.out
        have hms43_1 := NB166_165.out
        have hs45 : w36.cell? ⟨gb166, 3, none⟩ = some (.slice none 0 0) := (blk_cell BK166.out 3).trans rfl
        have hfs45 := blk_frozen BK166.out 3
        have hns45_0 := NB164_166.out
        have hns45_1 := NB165_166.out
        have hms45_0 := NB166_164.out
        have hms45_1 := NB166_165.out
        refine skip_ (w1 := ?_) (by rfl) rfl ?_ ?_
        rotate_left
        · go_simp
          rfl
        refine hK.out _ _ ⟨((cell_far (p := ⟨gb166, _, none⟩) NB164_166.out _).trans (((cell_far (p := ⟨gb166, _, none⟩) NB164_166.out _).trans (((cell_far (p := ⟨gb166, _, none⟩) NB164_166.out _).trans (((cell_far (p := ⟨gb166, _, none⟩) NB164_166.out _).trans (hHeld.1)))))))), ((cell_far (p := ⟨gb166, _, none⟩) NB164_166.out _).trans (((cell_far (p := ⟨gb166, _, none⟩) NB164_166.out _).trans (((cell_far (p := ⟨gb166, _, none⟩) NB164_166.out _).trans (((cell_far (p := ⟨gb166, _, none⟩) NB164_166.out _).trans (hHeld.2))))))))⟩ (fun hHeld => ?_)
        clear hK K
        refine pure_ (i := 14) (N := some 6) (v := ?_) (a' := ?_) #[true, true, true, true, true, true, true, true, true, true, true, true, true, true, true] rfl rfl (any_of HT_.out (by kernel_rfl)) (fun _ _ _ h => h) (Or.inl ⟨by rfl, ?_⟩) ?_ ?_
        rotate_left
        · intro w'
          go_simp
          with_reducible rfl
        rotate_left
        · simp only [Act.put, List.setIfInBounds_toArray, List.set_cons_zero, List.set_cons_succ, i64_w, i32_w]
          rfl
        refine done_ (done_of HT_.out (by kernel_rfl)) ?_
        try go_wp2
        refine bodyPost_ret (results_list (rs := [.cell 4 30, .cell 5 33, .tmp 6]) rfl (by simp) (.cell gb165 30 #[.string a0_0, .int .i64 (wrap64 (a0_1 + 1))] (0, 0) _ rfl (by (with_reducible repeat (first | apply qa5 | apply qb5 | apply qc5)); refine blk_far ?_ NB165_166.out _; (with_reducible repeat (first | apply qa5 | apply qb5 | apply qc5)); refine blk_far ?_ NB165_166.out _; (with_reducible repeat (first | apply qa5 | apply qb5 | apply qc5)); refine blk_far ?_ NB165_166.out _; (with_reducible repeat (first | apply qa5 | apply qb5 | apply qc5)); refine blk_far ?_ NB165_166.out _; (with_reducible repeat (first | apply qa5 | apply qb5 | apply qc5)); refine blk_put (cs := #[.string a0_0, .int .i64 0]) ?_ 1 _ rfl; (with_reducible repeat (first | apply qa5 | apply qb5 | apply qc5)); refine blk_put (cs := #[.string (⟨#[]⟩ : ByteArray), .int .i64 0]) ?_ 0 _ rfl; (with_reducible repeat (first | apply qa5 | apply qb5 | apply qc5)); exact BK165.out) Tryd.underlying30 rfl (by kernel_rfl) (.cell gb166 33 #[.int .i64 t168, .slice Ao40 t169.length co40, .slice Ao42 t172.length co42, .slice Ao44 t175.length co44] (0, 0) _ rfl (by (with_reducible repeat (first | apply qa5 | apply qb5 | apply qc5)); refine blk_put (cs := #[.int .i64 t168, .slice Ao40 t169.length co40, .slice Ao42 t172.length co42, .slice none 0 0]) ?_ 3 _ rfl; (with_reducible repeat (first | apply qa5 | apply qb5 | apply qc5)); refine blk_put (cs := #[.int .i64 t168, .slice Ao40 t169.length co40, .slice none 0 0, .slice none 0 0]) ?_ 2 _ rfl; (with_reducible repeat (first | apply qa5 | apply qb5 | apply qc5)); refine blk_put (cs := #[.int .i64 t168, .slice none 0 0, .slice none 0 0, .slice none 0 0]) ?_ 1 _ rfl; (with_reducible repeat (first | apply qa5 | apply qb5 | apply qc5)); refine blk_put (cs := #[.int .i64 0, .slice none 0 0, .slice none 0 0, .slice none 0 0]) ?_ 0 _ rfl; (with_reducible repeat (first | apply qa5 | apply qb5 | apply qc5)); refine blk_far ?_ NB166_165.out _; (with_reducible repeat (first | apply qa5 | apply qb5 | apply qc5)); refine blk_far ?_ NB166_165.out _; (with_reducible repeat (first | apply qa5 | apply qb5 | apply qc5)); exact BK166.out) Tryd.underlying33 rfl (by kernel_rfl) (.tmp .nil)))) rfl ?_
        exact ⟨_, _, _, by first | rfl | (simp [errW_none, errW_some] <;> rfl) | (simp [*, errW_none, errW_some] <;> rfl), by (with_reducible repeat (first | apply qd5 | apply qe5 | apply qf5)); exact Kd.R_mono (Kd.R_far (p := ⟨gb166, 3, none⟩) (Kd.R_far (p := ⟨gb166, 2, none⟩) (Kd.R_far (p := ⟨gb166, 1, none⟩) (Kd.R_far (p := ⟨gb166, 0, none⟩) (Kd.R_far (p := ⟨gb165, 1, none⟩) (Kd.R_far (p := ⟨gb165, 0, none⟩) (Kd.R_types (Kd.R_types HO171.out BK165.out (by decide)) BK166.out (by decide)) (fun _ hk => hk.1.2) (.string a0_0)) (fun _ hk => hk.1.2) (.int .i64 (wrap64 (a0_1 + 1)))) (fun _ hk => hk.2) (.int .i64 t168)) (fun _ hk => hk.2) (.slice Ao40 t169.length co40)) (fun _ hk => hk.2) (.slice Ao42 t172.length co42)) (fun _ hk => hk.2) (.slice Ao44 t175.length co44)) (fun _ hk => ⟨hk.1.1.1, hk.1.1.2⟩), by (with_reducible repeat (first | apply qd5 | apply qe5 | apply qf5)); exact Kd.R_mono (Kd.R_far (p := ⟨gb166, 3, none⟩) (Kd.R_far (p := ⟨gb166, 2, none⟩) (Kd.R_far (p := ⟨gb166, 1, none⟩) (Kd.R_far (p := ⟨gb166, 0, none⟩) (Kd.R_far (p := ⟨gb165, 1, none⟩) (Kd.R_far (p := ⟨gb165, 0, none⟩) (Kd.R_types (Kd.R_types HO174.out BK165.out (by decide)) BK166.out (by decide)) (fun _ hk => hk.1.2) (.string a0_0)) (fun _ hk => hk.1.2) (.int .i64 (wrap64 (a0_1 + 1)))) (fun _ hk => hk.2) (.int .i64 t168)) (fun _ hk => hk.2) (.slice Ao40 t169.length co40)) (fun _ hk => hk.2) (.slice Ao42 t172.length co42)) (fun _ hk => hk.2) (.slice Ao44 t175.length co44)) (fun _ hk => ⟨hk.1.1.1, hk.1.1.2⟩), by (with_reducible repeat (first | apply qd5 | apply qe5 | apply qf5)); exact Kd.R_mono (Kd.R_far (p := ⟨gb166, 3, none⟩) (Kd.R_far (p := ⟨gb166, 2, none⟩) (Kd.R_far (p := ⟨gb166, 1, none⟩) (Kd.R_far (p := ⟨gb166, 0, none⟩) (Kd.R_far (p := ⟨gb165, 1, none⟩) (Kd.R_far (p := ⟨gb165, 0, none⟩) (Kd.R_types (Kd.R_types HO177.out BK165.out (by decide)) BK166.out (by decide)) (fun _ hk => hk.1.2) (.string a0_0)) (fun _ hk => hk.1.2) (.int .i64 (wrap64 (a0_1 + 1)))) (fun _ hk => hk.2) (.int .i64 t168)) (fun _ hk => hk.2) (.slice Ao40 t169.length co40)) (fun _ hk => hk.2) (.slice Ao42 t172.length co42)) (fun _ hk => hk.2) (.slice Ao44 t175.length co44)) (fun _ hk => ⟨hk.1.1.1, hk.1.1.2⟩), by repeat (first | (with_reducible first | exact HB.out | apply qg5 | apply qh5 | apply qi5 | refine qj5 ?_ GE164.out | refine qj5 ?_ GE165.out | refine qj5 ?_ GE166.out) | exact HB.out)⟩
    · replace c13 := Bool.eq_false_iff.mpr c13
      subst c13
      have H1 : (some ((⟨#[]⟩ : ByteArray), 0, 0, ([] : List ByteArray), ([] : List ByteArray), ([] : List ByteArray), 1)) = some (r1, r2, r3, r4, r5, r6, r7) := by rw [if_neg (show ¬ (false = true) by decide)] at H; exact H
      clear H
      have H := H1
      clear H1
      simp only [Option.some.injEq, Prod.mk.injEq] at H
      obtain ⟨rfl, rfl, rfl, rfl, rfl, rfl, rfl⟩ := H
      go_enter Tryd.func19, Tryd.ntmps19
      go_wp2_with (first | ((with_reducible refine gate_dst (N := 2) rfl ?_); refine box_event ?hg (N := 2) ?hd (cs := #[.string a0_0, .int .i64 a0_1]) (t := 30) ?hr ?_; (case hd => rfl); (case hg => rfl); (case hr => first | (go_simp; done) | (go_simp; rfl)); intro gb164 hg w46 hbox hb; have n0_ := qk5 (ql5 (by repeat (first | (with_reducible first | exact HB.out | apply qg5 | apply qh5 | apply qi5) | exact HB.out)) hb); have n1_ := qk5 (hbox); have n2_ := qk5 ((by rw [hg]; exact (qm5 (by repeat (first | (with_reducible first | exact HB.out | apply qg5 | apply qh5 | apply qi5) | exact HB.out))) : w.heap.size ≤ gb164)); have n3_ := qk5 ((by rw [hg]; exact (qm5 (by repeat (first | (with_reducible first | exact HB.out | apply qg5 | apply qh5 | apply qi5) | exact HB.out))) : w.heap.size ≤ gb164)); clear HB; have HB := n0_; have BK164 := n1_; have GW164 := n2_; have GE164 := n3_; clear n0_ n1_ n2_ n3_; clear hb hbox hg) | ((with_reducible refine gate_dst (N := 4) rfl ?_); refine box_event ?hg (N := 4) ?hd (cs := #[.string (⟨#[]⟩ : ByteArray), .int .i64 0]) (t := 30) ?hr ?_; (case hd => rfl); (case hg => rfl); (case hr => first | (go_simp; done) | (go_simp; rfl)); intro gb165 hg w47 hbox hb; have n0_ := qk5 (blk_below (g := gb164) (o := .cells #[.string a0_0, .int .i64 a0_1] 30 (0, 0)) (by (with_reducible repeat (first | apply qa5 | apply qb5 | apply qc5)); exact BK164.out) hb); have n1_ := qk5 (ql5 (by repeat (first | (with_reducible first | exact HB.out | apply qg5 | apply qh5 | apply qi5 | refine qj5 ?_ GE164.out) | exact HB.out)) hb); have n2_ := qk5 (hbox); have n3_ := qk5 ((by rw [hg]; exact (qm5 (by repeat (first | (with_reducible first | exact HB.out | apply qg5 | apply qh5 | apply qi5 | refine qj5 ?_ GE164.out) | exact HB.out))) : w.heap.size ≤ gb165)); have n4_ := qk5 ((by rw [hg]; exact (qm5 (by repeat (first | (with_reducible first | exact HB.out | apply qg5 | apply qh5 | apply qi5 | refine qj5 ?_ GE164.out) | exact HB.out))) : w.heap.size ≤ gb165)); have n5_ := qk5 ((by rw [hg]; exact Nat.ne_of_lt (blk_lt (g := gb164) (o := .cells #[.string a0_0, .int .i64 a0_1] 30 (0, 0)) (by (with_reducible repeat (first | apply qa5 | apply qb5 | apply qc5)); exact BK164.out)) : gb164 ≠ gb165)); have n6_ := qk5 ((by rw [hg]; exact Nat.ne_of_gt (blk_lt (g := gb164) (o := .cells #[.string a0_0, .int .i64 a0_1] 30 (0, 0)) (by (with_reducible repeat (first | apply qa5 | apply qb5 | apply qc5)); exact BK164.out)) : gb165 ≠ gb164)); clear BK164; clear HB; have BK164 := n0_; have HB := n1_; have BK165 := n2_; have GW165 := n3_; have GE165 := n4_; have NB164_165 := n5_; have NB165_164 := n6_; clear n0_ n1_ n2_ n3_ n4_ n5_ n6_; clear hb hbox hg) | ((with_reducible refine gate_dst (N := 5) rfl ?_); refine box_event ?hg (N := 5) ?hd (cs := #[.int .i64 0, .slice none 0 0, .slice none 0 0, .slice none 0 0]) (t := 33) ?hr ?_; (case hd => rfl); (case hg => rfl); (case hr => first | (go_simp; done) | (go_simp; rfl)); intro gb166 hg w48 hbox hb; have n0_ := qk5 (blk_below (g := gb164) (o := .cells #[.string a0_0, .int .i64 a0_1] 30 (0, 0)) (by (with_reducible repeat (first | apply qa5 | apply qb5 | apply qc5)); exact BK164.out) hb); have n1_ := qk5 (blk_below (g := gb165) (o := .cells #[.string (⟨#[]⟩ : ByteArray), .int .i64 0] 30 (0, 0)) (by (with_reducible repeat (first | apply qa5 | apply qb5 | apply qc5)); exact BK165.out) hb); have n2_ := qk5 (ql5 (by repeat (first | (with_reducible first | exact HB.out | apply qg5 | apply qh5 | apply qi5 | refine qj5 ?_ GE164.out | refine qj5 ?_ GE165.out) | exact HB.out)) hb); have n3_ := qk5 (hbox); have n4_ := qk5 ((by rw [hg]; exact (qm5 (by repeat (first | (with_reducible first | exact HB.out | apply qg5 | apply qh5 | apply qi5 | refine qj5 ?_ GE164.out | refine qj5 ?_ GE165.out) | exact HB.out))) : w.heap.size ≤ gb166)); have n5_ := qk5 ((by rw [hg]; exact (qm5 (by repeat (first | (with_reducible first | exact HB.out | apply qg5 | apply qh5 | apply qi5 | refine qj5 ?_ GE164.out | refine qj5 ?_ GE165.out) | exact HB.out))) : w.heap.size ≤ gb166)); have n6_ := qk5 ((by rw [hg]; exact Nat.ne_of_lt (blk_lt (g := gb164) (o := .cells #[.string a0_0, .int .i64 a0_1] 30 (0, 0)) (by (with_reducible repeat (first | apply qa5 | apply qb5 | apply qc5)); exact BK164.out)) : gb164 ≠ gb166)); have n7_ := qk5 ((by rw [hg]; exact Nat.ne_of_gt (blk_lt (g := gb164) (o := .cells #[.string a0_0, .int .i64 a0_1] 30 (0, 0)) (by (with_reducible repeat (first | apply qa5 | apply qb5 | apply qc5)); exact BK164.out)) : gb166 ≠ gb164)); have n8_ := qk5 ((by rw [hg]; exact Nat.ne_of_lt (blk_lt (g := gb165) (o := .cells #[.string (⟨#[]⟩ : ByteArray), .int .i64 0] 30 (0, 0)) (by (with_reducible repeat (first | apply qa5 | apply qb5 | apply qc5)); exact BK165.out)) : gb165 ≠ gb166)); have n9_ := qk5 ((by rw [hg]; exact Nat.ne_of_gt (blk_lt (g := gb165) (o := .cells #[.string (⟨#[]⟩ : ByteArray), .int .i64 0] 30 (0, 0)) (by (with_reducible repeat (first | apply qa5 | apply qb5 | apply qc5)); exact BK165.out)) : gb166 ≠ gb165)); clear BK164; clear BK165; clear HB; have BK164 := n0_; have BK165 := n1_; have HB := n2_; have BK166 := n3_; have GW166 := n4_; have GE166 := n5_; have NB164_166 := n6_; have NB166_164 := n7_; have NB165_166 := n8_; have NB166_165 := n9_; clear n0_ n1_ n2_ n3_ n4_ n5_ n6_ n7_ n8_ n9_; clear hb hbox hg; have hnb49 := NB164_165.out; have hnc49 := NB165_164.out; have hnb50 := NB164_166.out; have hnc50 := NB166_164.out; have hcz51_0 : w48.cell? ⟨gb164, 0, none⟩ = some (.string a0_0) := (blk_cell BK164.out 0).trans rfl; have hcz51_1 : w48.cell? ⟨gb164, 1, none⟩ = some (.int .i64 a0_1) := (blk_cell BK164.out 1).trans rfl; have hfz51_0 := blk_frozen BK164.out 0; have hfz51_1 := blk_frozen BK164.out 1) | ((with_reducible refine gate_callee (f := 22) rfl ?_); refine goesL_ (some 15) rfl rfl Tryd.func22 (by kernel_rfl) rfl #[.agg #[.string a0_0, .int .i64 a0_1]] rfl (by (try simp only [List.map_toArray, List.map_cons, List.map_nil]); first | done | rfl | (simp only [List.length_drop, List.length_take]; rfl)) ?_; (with_reducible refine (impl_KeyChainOK.calls a0_0 a0_1 false _ A12.out).mono ?_); rintro e w52 ⟨rfl, hb⟩; refine ⟨_, rfl, ?_⟩; have n0_ := qk5 (blk_below (g := gb164) (o := .cells #[.string a0_0, .int .i64 a0_1] 30 (0, 0)) (by (with_reducible repeat (first | apply qa5 | apply qb5 | apply qc5)); exact BK164.out) hb); have n1_ := qk5 (blk_below (g := gb165) (o := .cells #[.string (⟨#[]⟩ : ByteArray), .int .i64 0] 30 (0, 0)) (by (with_reducible repeat (first | apply qa5 | apply qb5 | apply qc5)); exact BK165.out) hb); have n2_ := qk5 (blk_below (g := gb166) (o := .cells #[.int .i64 0, .slice none 0 0, .slice none 0 0, .slice none 0 0] 33 (0, 0)) (by (with_reducible repeat (first | apply qa5 | apply qb5 | apply qc5)); exact BK166.out) hb); have n3_ := qk5 (ql5 (by repeat (first | (with_reducible first | exact HB.out | apply qg5 | apply qh5 | apply qi5 | refine qj5 ?_ GE164.out | refine qj5 ?_ GE165.out | refine qj5 ?_ GE166.out) | exact HB.out)) hb); clear BK164; clear BK165; clear BK166; clear HB; have BK164 := n0_; have BK165 := n1_; have BK166 := n2_; have HB := n3_; clear n0_ n1_ n2_ n3_; (try clear hb); (try clear hb2); (try clear hk); (try clear hi); have hnb53 := NB165_166.out; have hnc53 := NB166_165.out; have hcz54_0 : w52.cell? ⟨gb165, 0, none⟩ = some (.string (⟨#[]⟩ : ByteArray)) := (blk_cell BK165.out 0).trans rfl; have hcz54_1 : w52.cell? ⟨gb165, 1, none⟩ = some (.int .i64 0) := (blk_cell BK165.out 1).trans rfl; have hfz54_0 := blk_frozen BK165.out 0; have hfz54_1 := blk_frozen BK165.out 1; have hcz55_0 : w52.cell? ⟨gb166, 0, none⟩ = some (.int .i64 0) := (blk_cell BK166.out 0).trans rfl; have hcz55_1 : w52.cell? ⟨gb166, 1, none⟩ = some (.slice none 0 0) := (blk_cell BK166.out 1).trans rfl; have hcz55_2 : w52.cell? ⟨gb166, 2, none⟩ = some (.slice none 0 0) := (blk_cell BK166.out 2).trans rfl; have hcz55_3 : w52.cell? ⟨gb166, 3, none⟩ = some (.slice none 0 0) := (blk_cell BK166.out 3).trans rfl; have hfz55_0 := blk_frozen BK166.out 0; have hfz55_1 := blk_frozen BK166.out 1; have hfz55_2 := blk_frozen BK166.out 2; have hfz55_3 := blk_frozen BK166.out 3))
      refine bodyPost_ret (results_list (rs := [.cell 4 30, .cell 5 33, .tmp 6]) rfl (by simp) (.cell gb165 30 #[.string (⟨#[]⟩ : ByteArray), .int .i64 0] (0, 0) _ rfl (by (with_reducible repeat (first | apply qa5 | apply qb5 | apply qc5)); refine blk_far ?_ NB165_166.out _; (with_reducible repeat (first | apply qa5 | apply qb5 | apply qc5)); refine blk_far ?_ NB165_166.out _; (with_reducible repeat (first | apply qa5 | apply qb5 | apply qc5)); refine blk_far ?_ NB165_166.out _; (with_reducible repeat (first | apply qa5 | apply qb5 | apply qc5)); refine blk_far ?_ NB165_166.out _; (with_reducible repeat (first | apply qa5 | apply qb5 | apply qc5)); refine blk_put (cs := #[.string (⟨#[]⟩ : ByteArray), .int .i64 0]) ?_ 1 _ rfl; (with_reducible repeat (first | apply qa5 | apply qb5 | apply qc5)); refine blk_put (cs := #[.string (⟨#[]⟩ : ByteArray), .int .i64 0]) ?_ 0 _ rfl; (with_reducible repeat (first | apply qa5 | apply qb5 | apply qc5)); exact BK165.out) Tryd.underlying30 rfl (by kernel_rfl) (.cell gb166 33 #[.int .i64 0, .slice none 0 0, .slice none 0 0, .slice none 0 0] (0, 0) _ rfl (by (with_reducible repeat (first | apply qa5 | apply qb5 | apply qc5)); refine blk_put (cs := #[.int .i64 0, .slice none 0 0, .slice none 0 0, .slice none 0 0]) ?_ 3 _ rfl; (with_reducible repeat (first | apply qa5 | apply qb5 | apply qc5)); refine blk_put (cs := #[.int .i64 0, .slice none 0 0, .slice none 0 0, .slice none 0 0]) ?_ 2 _ rfl; (with_reducible repeat (first | apply qa5 | apply qb5 | apply qc5)); refine blk_put (cs := #[.int .i64 0, .slice none 0 0, .slice none 0 0, .slice none 0 0]) ?_ 1 _ rfl; (with_reducible repeat (first | apply qa5 | apply qb5 | apply qc5)); refine blk_put (cs := #[.int .i64 0, .slice none 0 0, .slice none 0 0, .slice none 0 0]) ?_ 0 _ rfl; (with_reducible repeat (first | apply qa5 | apply qb5 | apply qc5)); refine blk_far ?_ NB166_165.out _; (with_reducible repeat (first | apply qa5 | apply qb5 | apply qc5)); refine blk_far ?_ NB166_165.out _; (with_reducible repeat (first | apply qa5 | apply qb5 | apply qc5)); exact BK166.out) Tryd.underlying33 rfl (by kernel_rfl) (.tmp .nil)))) rfl ?_
      exact ⟨_, _, _, by first | rfl | (simp [errW_none, errW_some] <;> rfl) | (simp [*, errW_none, errW_some] <;> rfl), by first | exact Kd.R_nil _ _ _ _ _ | exact Kd.N_nil _ _ _ _ _ | exact Kd.V_nil _ _ _ _ _ | exact Kd.Q_nil _ _ _ _ _ | exact Kd.S_nil _ _ _ _ _, by first | exact Kd.R_nil _ _ _ _ _ | exact Kd.N_nil _ _ _ _ _ | exact Kd.V_nil _ _ _ _ _ | exact Kd.Q_nil _ _ _ _ _ | exact Kd.S_nil _ _ _ _ _, by first | exact Kd.R_nil _ _ _ _ _ | exact Kd.N_nil _ _ _ _ _ | exact Kd.V_nil _ _ _ _ _ | exact Kd.Q_nil _ _ _ _ _ | exact Kd.S_nil _ _ _ _ _, by repeat (first | (with_reducible first | exact HB.out | apply qg5 | apply qh5 | apply qi5 | refine qj5 ?_ GE164.out | refine qj5 ?_ GE165.out | refine qj5 ?_ GE166.out) | exact HB.out)⟩

/-! ### spec_l01In: function 60 -/
def spec_l01In.f (a0 : Int) (a1 : Int) (a2 : Int) : Option (Bool) := if a0 ≥ a1 then (some (decide (a0 ≤ a2))) else (some false)
set_option maxHeartbeats 8000000 in
set_option maxRecDepth 100000 in
theorem spec_l01In.calls (a0 : Int) (a1 : Int) (a2 : Int) (r : Bool) (w : World) (h : spec_l01In.f a0 a1 a2 = some r) :
    Calls Tryd.prog 60 #[.int .i64 a0, .int .i64 a1, .int .i64 a2] w fun e w' => e = .returned (.bool r) ∧ Drawn0 w w' := by
  have H : (if a0 ≥ a1 then (some (decide (a0 ≤ a2))) else (some false)) = some r := h
  clear h
  by_cases c4 : a0 ≥ a1
  · rw [if_pos c4] at H
    have c4b0 : decide (a1 ≤ a0) = true := decide_eq_true c4
    clear c4
    obtain rfl := Option.some.inj H
    go_enter Tryd.func60, Tryd.ntmps60
    go_wp2
    go_ret
    exact ⟨by first | rfl | (simp; done) | (simp [*]; done), by repeat (first | exact Drawn0.refl _ | apply Drawn0.step)⟩
  · rw [if_neg c4] at H
    have c4b0 : decide (a1 ≤ a0) = false := decide_eq_false c4
    clear c4
    obtain rfl := Option.some.inj H
    go_enter Tryd.func60, Tryd.ntmps60
    go_wp2
    go_ret
    exact ⟨by first | rfl | (simp; done) | (simp [*]; done), by repeat (first | exact Drawn0.refl _ | apply Drawn0.step)⟩

/-! ### spec_l01Hash: function 54, given -/
def spec_l01Hash.f (l0 : List Int) : Option ByteArray := if l0.length ≤ 1099511627776 then some (Go.Proofs.YtmkaknegjahjaaaDoor.Sha.shaB l0) else none
theorem spec_l01Hash.calls (A0 : Option Addr) (c0 : Nat) (l0 : List Int) (r : ByteArray) (w : World) (hr0 : Kd.C (Kd.int .u8) w A0 l0.length l0) (hc0 : l0.length ≤ c0) (h : spec_l01Hash.f l0 = some r) :
    Calls Tryd.prog 54 #[.slice A0 l0.length c0] w fun e w' => e = .returned (.string r) ∧ Below w.heap.size w w' := by
  have hs : l0.length ≤ 1099511627776 := by
    rcases Nat.lt_or_ge 1099511627776 l0.length with hl | hl
    · rw [spec_l01Hash.f, if_neg (by omega)] at h; cases h
    · exact hl
  rw [spec_l01Hash.f, if_pos hs] at h
  injection h with h
  subst h
  exact Go.Proofs.YtmkaknegjahjaaaDoor.Sha.hashS_calls A0 c0 l0 w hr0 hs


/-! ### spec_l03Secret: function 108 -/
def spec_l03Secret.f (a0 : ByteArray) (a1 : Int) (a2 : Int) (a3 : Int) : Option (ByteArray) := if 6 + a0.size ≤ 9223372036854775807 then ((some (([(a1) % 256, (a2) % 256, (a3) % 256] : List Int) : List Int)).bind fun y178 => (if ((⟨#[115, 101, 99, 114, 101, 116]⟩ : ByteArray) ++ a0).size + (strOfNums y178).size ≤ 9223372036854775807 then (if (((⟨#[115, 101, 99, 114, 101, 116]⟩ : ByteArray) ++ a0) ++ (strOfNums y178)).size ≤ 9223372036854775807 then ((spec_l01Hash.f (bytesOf (((⟨#[115, 101, 99, 114, 101, 116]⟩ : ByteArray) ++ a0) ++ (strOfNums y178)))).bind fun t184 => (some t184)) else (none)) else (none))) else (none)
set_option maxHeartbeats 8000000 in
set_option maxRecDepth 100000 in
theorem spec_l03Secret.calls (a0 : ByteArray) (a1 : Int) (a2 : Int) (a3 : Int) (r : ByteArray) (w : World) (h : spec_l03Secret.f a0 a1 a2 a3 = some r) :
    Calls Tryd.prog 108 #[.string a0, .int .i64 a1, .int .i64 a2, .int .i64 a3] w fun e w' => e = .returned (.string r) ∧ Below w.heap.size w w' := by
  have HB := qk5 (Below.refl w.heap.size w)
  have H : (if 6 + a0.size ≤ 9223372036854775807 then ((some (([(a1) % 256, (a2) % 256, (a3) % 256] : List Int) : List Int)).bind fun y178 => (if ((⟨#[115, 101, 99, 114, 101, 116]⟩ : ByteArray) ++ a0).size + (strOfNums y178).size ≤ 9223372036854775807 then (if (((⟨#[115, 101, 99, 114, 101, 116]⟩ : ByteArray) ++ a0) ++ (strOfNums y178)).size ≤ 9223372036854775807 then ((spec_l01Hash.f (bytesOf (((⟨#[115, 101, 99, 114, 101, 116]⟩ : ByteArray) ++ a0) ++ (strOfNums y178)))).bind fun t184 => (some t184)) else (none)) else (none))) else (none)) = some r := h
  clear h
  by_cases c5 : 6 + a0.size ≤ 9223372036854775807
  · rw [if_pos c5] at H
    have c5b0 := eq_true c5
    have c5b1 : decide (6 + a0.size ≤ 9223372036854775807) = true := decide_eq_true c5
    try have c5b2 : (9223372036854775807 < 6 + a0.size) = False := eq_false (Nat.not_lt.2 c5)
    obtain ⟨y178, hy178⟩ : ∃ y_ : List Int, y_ = (([(a1) % 256, (a2) % 256, (a3) % 256] : List Int)) := ⟨_, rfl⟩
    replace H : (if ((⟨#[115, 101, 99, 114, 101, 116]⟩ : ByteArray) ++ a0).size + (strOfNums y178).size ≤ 9223372036854775807 then (if (((⟨#[115, 101, 99, 114, 101, 116]⟩ : ByteArray) ++ a0) ++ (strOfNums y178)).size ≤ 9223372036854775807 then ((spec_l01Hash.f (bytesOf (((⟨#[115, 101, 99, 114, 101, 116]⟩ : ByteArray) ++ a0) ++ (strOfNums y178)))).bind fun t184 => (some t184)) else (none)) else (none)) = some r := by first | (rw [hy178]; with_reducible exact H) | (have H2_ := (Option.bind_some _ _).symm.trans H; rw [hy178]; with_reducible exact H2_) | (have H2_ := (Option.bind_some _ _).symm.trans H; with_reducible exact H2_) | with_reducible exact H | (rw [hy178]; exact H) | exact H
    have Ny178 := qk5 hy178
    clear hy178
    by_cases c6 : ((⟨#[115, 101, 99, 114, 101, 116]⟩ : ByteArray) ++ a0).size + (strOfNums y178).size ≤ 9223372036854775807
    · rw [if_pos c6] at H
      have c6b0 := eq_true c6
      have c6b1 : decide (((⟨#[115, 101, 99, 114, 101, 116]⟩ : ByteArray) ++ a0).size + (strOfNums y178).size ≤ 9223372036854775807) = true := decide_eq_true c6
      try have c6b2 : (9223372036854775807 < ((⟨#[115, 101, 99, 114, 101, 116]⟩ : ByteArray) ++ a0).size + (strOfNums y178).size) = False := eq_false (Nat.not_lt.2 c6)
      (try (have c6b3 := c6; simp only [ByteArray.size_append] at c6b3; have c6b4 := eq_false (Nat.not_lt.2 c6b3)))
      (try (have c6b5 : (9223372036854775807 < 6 + a0.size + (strOfNums y178).size) = False := eq_false (by have h_ := c6; simp only [ByteArray.size_append] at h_; have hl0_ : ((⟨#[115, 101, 99, 114, 101, 116]⟩ : ByteArray)).size = 6 := rfl; omega)))
      by_cases c7 : (((⟨#[115, 101, 99, 114, 101, 116]⟩ : ByteArray) ++ a0) ++ (strOfNums y178)).size ≤ 9223372036854775807
      · rw [if_pos c7] at H
        have c7b0 := eq_true c7
        have c7b1 : decide ((((⟨#[115, 101, 99, 114, 101, 116]⟩ : ByteArray) ++ a0) ++ (strOfNums y178)).size ≤ 9223372036854775807) = true := decide_eq_true c7
        try have c7b2 : (9223372036854775807 < (((⟨#[115, 101, 99, 114, 101, 116]⟩ : ByteArray) ++ a0) ++ (strOfNums y178)).size) = False := eq_false (Nat.not_lt.2 c7)
        (try (have c7b3 := c7; simp only [ByteArray.size_append] at c7b3; have c7b4 := eq_false (Nat.not_lt.2 c7b3)))
        obtain ⟨y181, hy181⟩ : ∃ y_ : List Int, y_ = (bytesOf (((⟨#[115, 101, 99, 114, 101, 116]⟩ : ByteArray) ++ a0) ++ (strOfNums y178))) := ⟨_, rfl⟩
        replace H : ((spec_l01Hash.f y181).bind fun t184 => (some t184)) = some r := by first | (rw [hy181]; with_reducible exact H) | (have H2_ := (Option.bind_some _ _).symm.trans H; rw [hy181]; with_reducible exact H2_) | (have H2_ := (Option.bind_some _ _).symm.trans H; with_reducible exact H2_) | with_reducible exact H | (rw [hy181]; exact H) | exact H
        have Ny181 := qk5 hy181
        clear hy181
        replace H := Option.bind_eq_some_iff.mp H
        obtain ⟨t184, A80, H⟩ := H
        replace H : (some t184) = some r := H
        have A8 := qk5 A80
        clear A80
        obtain rfl := Option.some.inj H
        go_enter Tryd.func108, Tryd.ntmps108
        go_wp2_with (first | ((with_reducible refine gate_dst (N := 17) rfl ?_); refine Kd.R_lit (Kd.int .u8) _ 5 ?hg (N := 17) ?hd (xs := ([(a1) % 256, (a2) % 256, (a3) % 256] : List Int)) (inner := [.int .u8 ((a1) % 256), .int .u8 ((a2) % 256), .int .u8 ((a3) % 256)]) (ok := fun _ => True) (okp := fun _ => True) ?hr ?hp (fun _ hk => hk) trivial (Below.refl _ _) (Nat.le_refl _) (by simp) ?_; (case hd => rfl); (case hg => rfl); (case hr => first | (go_simp; done) | (go_simp; rfl)); (case hp => exact (Reps.one (show Kd.M (Kd.int .u8) _ _ _ ((a1) % 256) [.int .u8 ((a1) % 256)] from rfl) (Reps.one (show Kd.M (Kd.int .u8) _ _ _ ((a2) % 256) [.int .u8 ((a2) % 256)] from rfl) (Reps.one (show Kd.M (Kd.int .u8) _ _ _ ((a3) % 256) [.int .u8 ((a3) % 256)] from rfl) (Reps.none _ _))))); intro v179 w9 ho10 hb hg_ hnew_; clear hg_ hnew_; (first | rw [← Ny178.out] at ho10 | (simp only [Int.reduceToNat] at ho10; rw [← Ny178.out] at ho10)); have n0_ := qk5 (Kd.R_lower ho10 (qm5 (by repeat (first | (with_reducible first | exact HB.out | apply qg5 | apply qh5 | apply qi5) | exact HB.out)))); have n1_ := qk5 (ql5 (by repeat (first | (with_reducible first | exact HB.out | apply qg5 | apply qh5 | apply qi5) | exact HB.out)) hb); clear HB; have HO180 := n0_; have HB := n1_; clear n0_ n1_; clear hb ho10; have hcv11 := own_string (P := Tryd.prog) Tryd.underlying22 Tryd.underlying5 Tryd.underlying9 (Kd.own_of_R HO180.out)) | ((with_reducible refine gate_dst (N := 20) rfl ?_); refine R_bytes _ 5 rfl (N := 20) rfl 9 22 _ rfl (((⟨#[115, 101, 99, 114, 101, 116]⟩ : ByteArray) ++ a0) ++ (strOfNums y178)) rfl Tryd.underlying9 Tryd.underlying22 Tryd.underlying5 (ok := fun _ => True) trivial (of_decide_eq_true (by first | (with_reducible assumption) | assumption)) (Below.refl _ _) (Nat.le_refl _) ?_; intro v182 w12 ho13 hb hg_ hnew_; clear hg_ hnew_; (first | rw [← Ny181.out] at ho13 | (simp only [Int.reduceToNat] at ho13; rw [← Ny181.out] at ho13)); have n0_ := qk5 (Kd.R_elder' (by (with_reducible repeat (first | apply qd5 | apply qe5 | apply qf5)); exact HO180.out) (Kd.R_base ho13) hb); have n1_ := qk5 (Kd.R_lower (Kd.R_new' ho13 (Kd.R_lt (by (with_reducible repeat (first | apply qd5 | apply qe5 | apply qf5)); exact HO180.out))) (qm5 (by repeat (first | (with_reducible first | exact HB.out | apply qg5 | apply qh5 | apply qi5) | exact HB.out)))); have n2_ := qk5 (ql5 (by repeat (first | (with_reducible first | exact HB.out | apply qg5 | apply qh5 | apply qi5) | exact HB.out)) hb); clear HO180; clear HB; have HO180 := n0_; have HO183 := n1_; have HB := n2_; clear n0_ n1_ n2_; clear hb ho13; obtain ⟨Ao14, co14, eo14⟩ := Kd.R_slice HO183.out; subst eo14) | ((with_reducible refine gate_callee (f := 54) rfl ?_); refine goesL_ (some 21) rfl rfl Tryd.func54 (by kernel_rfl) rfl #[.slice Ao14 y181.length co14] rfl (by (try simp only [List.map_toArray, List.map_cons, List.map_nil]); first | done | rfl | (simp only [List.length_drop, List.length_take]; rfl)) ?_; (with_reducible refine (spec_l01Hash.calls _ _ y181 t184 _ ?side1 ?side2 A8.out).mono ?_); (case side1 => repeat (first | exact (Kd.R_reads' HO183.out).2.2 | (with_reducible refine Kd.C_alloc ?_ _) | (with_reducible refine Kd.C_drewN ?_ _) | (with_reducible refine Kd.C_drew ?_))); (case side2 => exact (Kd.R_reads' HO183.out).2.1); rintro e w15 ⟨rfl, hb⟩; refine ⟨_, rfl, ?_⟩; have n0_ := qk5 (Kd.R_below (by (with_reducible repeat (first | apply qd5 | apply qe5 | apply qf5)); exact HO180.out) hb); have n1_ := qk5 (Kd.R_below (by (with_reducible repeat (first | apply qd5 | apply qe5 | apply qf5)); exact HO183.out) hb); have n2_ := qk5 (ql5 (by repeat (first | (with_reducible first | exact HB.out | apply qg5 | apply qh5 | apply qi5) | exact HB.out)) hb); clear HO180; clear HO183; clear HB; have HO180 := n0_; have HO183 := n1_; have HB := n2_; clear n0_ n1_ n2_; (try clear hb); (try clear hb2); (try clear hk); (try clear hi)))
        go_ret
        exact ⟨by first | rfl | (simp [errW_none, errW_some] <;> rfl) | (simp [*, errW_none, errW_some] <;> rfl), by repeat (first | (with_reducible first | exact HB.out | apply qg5 | apply qh5 | apply qi5) | exact HB.out)⟩
      · rw [if_neg c7] at H
        exact absurd H (by simp)
    · rw [if_neg c6] at H
      exact absurd H (by simp)
  · rw [if_neg c5] at H
    exact absurd H (by simp)

/-! ### spec_l03Key: function 66 -/
mutual
def spec_l03Key.l0 : Nat → ByteArray → Int → List Int → Int → Option (ByteArray)
  | 0, _, _, _, _ => none
  | k + 1, x0, x1, x5, x6 => if x6 < 32 then (spec_l03Key.l1 k x0 x1 x5 x6 0) else ((spec_l01Hash.f x5).bind fun t188 => (some t188))
def spec_l03Key.l1 : Nat → ByteArray → Int → List Int → Int → Int → Option (ByteArray)
  | 0, _, _, _, _, _ => none
  | k + 1, x0, x1, x5, x6, x7 => if x7 < 2 then ((spec_l03Secret.f x0 x1 x6 x7).bind fun t189 => (if t189.size ≤ 9223372036854775807 then ((spec_l01Hash.f (bytesOf t189)).bind fun t193 => (if x5.length + t193.size < 140737488355328 then (spec_l03Key.l1 k x0 x1 (x5 ++ bytesOf t193) x6 (wrap64 (x7 + 1))) else (none))) else (none))) else (spec_l03Key.l0 k x0 x1 x5 (wrap64 (x6 + 1)))
end
def spec_l03Key.f (k : Nat) (a0 : ByteArray) (a1 : Int) : Option (ByteArray) := spec_l03Key.l0 k a0 a1 (([107, 101, 121] : List Int)) 0
theorem spec_l03Key.mono_l : ∀ k, (∀ y0 y1 y2 y3, LeO (spec_l03Key.l0 k y0 y1 y2 y3) (spec_l03Key.l0 (k + 1) y0 y1 y2 y3)) ∧ (∀ y0 y1 y2 y3 y4, LeO (spec_l03Key.l1 k y0 y1 y2 y3 y4) (spec_l03Key.l1 (k + 1) y0 y1 y2 y3 y4))
  | 0 => ⟨fun _ _ _ _ r h => by simp [spec_l03Key.l0] at h, fun _ _ _ _ _ r h => by simp [spec_l03Key.l1] at h⟩
  | k + 1 => by
    obtain ⟨ih0, ih1⟩ := spec_l03Key.mono_l k
    refine ⟨?_, ?_⟩
    · intro y0 y1 y2 y3
      unfold spec_l03Key.l0
      repeat' first
      | (with_reducible exact ih0 _ _ _ _)
      | (with_reducible exact ih1 _ _ _ _ _)
      | (with_reducible exact LeO.refl _)
      | (with_reducible exact LeO.none _)
      | (with_reducible refine LeO.ite ?_ ?_)
      | (with_reducible refine LeO.bind ?_ (fun _ => ?_))
      | exact ih0 _ _ _ _
      | exact ih1 _ _ _ _ _
      | exact LeO.none _
      | refine LeO.ite ?_ ?_
      | refine LeO.bind ?_ (fun _ => ?_)
    · intro y0 y1 y2 y3 y4
      unfold spec_l03Key.l1
      repeat' first
      | (with_reducible exact ih0 _ _ _ _)
      | (with_reducible exact ih1 _ _ _ _ _)
      | (with_reducible exact LeO.refl _)
      | (with_reducible exact LeO.none _)
      | (with_reducible refine LeO.ite ?_ ?_)
      | (with_reducible refine LeO.bind ?_ (fun _ => ?_))
      | exact ih0 _ _ _ _
      | exact ih1 _ _ _ _ _
      | exact LeO.none _
      | refine LeO.ite ?_ ?_
      | refine LeO.bind ?_ (fun _ => ?_)
theorem spec_l03Key.mono : ∀ a0 a1 k, LeO (spec_l03Key.f k a0 a1) (spec_l03Key.f (k + 1) a0 a1) := by
  intro a0 a1 k
  obtain ⟨ih0, ih1⟩ := spec_l03Key.mono_l k
  unfold spec_l03Key.f
  repeat' first
      | (with_reducible exact ih0 _ _ _ _)
      | (with_reducible exact ih1 _ _ _ _ _)
      | (with_reducible exact LeO.refl _)
      | (with_reducible exact LeO.none _)
      | (with_reducible refine LeO.ite ?_ ?_)
      | (with_reducible refine LeO.bind ?_ (fun _ => ?_))
      | exact ih0 _ _ _ _
      | exact ih1 _ _ _ _ _
      | exact LeO.none _
      | refine LeO.ite ?_ ?_
      | refine LeO.bind ?_ (fun _ => ?_)
set_option maxHeartbeats 8000000 in
set_option maxRecDepth 100000 in
theorem spec_l03Key.calls (k : Nat) (a0 : ByteArray) (a1 : Int) (r : ByteArray) (w : World) (h : spec_l03Key.f k a0 a1 = some r) :
    Calls Tryd.prog 66 #[.string a0, .int .i64 a1] w fun e w' => e = .returned (.string r) ∧ Below w.heap.size w w' := by
  have HB := qk5 (Below.refl w.heap.size w)
  have H : (spec_l03Key.l0 k a0 a1 (([107, 101, 121] : List Int)) 0) = some r := h
  clear h
  obtain ⟨y185, hy185⟩ : ∃ y_ : List Int, y_ = (([107, 101, 121] : List Int)) := ⟨_, rfl⟩
  replace H : (spec_l03Key.l0 k a0 a1 y185 0) = some r := by first | (rw [hy185]; with_reducible exact H) | (have H2_ := (Option.bind_some _ _).symm.trans H; rw [hy185]; with_reducible exact H2_) | (have H2_ := (Option.bind_some _ _).symm.trans H; with_reducible exact H2_) | with_reducible exact H | (rw [hy185]; exact H) | exact H
  have Ny185 := qk5 hy185
  clear hy185
  have H' := qk5 H
  clear H
  go_enter Tryd.func66, Tryd.ntmps66
  go_wp2_with (first | ((with_reducible refine gate_dst (N := 9) rfl ?_); refine R_litbytes _ 5 rfl (N := 9) rfl 22 _ rfl #[.int .u8 107, .int .u8 101, .int .u8 121] [107, 101, 121] rfl rfl Tryd.underlying22 Tryd.underlying5 (ok := fun _ => True) (by decide) trivial (Below.refl _ _) (Nat.le_refl _) ?_; intro v186 w3 ho4 hb hg_ hnew_; clear hg_ hnew_; (first | rw [← Ny185.out] at ho4 | (simp only [Int.reduceToNat] at ho4; rw [← Ny185.out] at ho4)); have n0_ := qk5 (Kd.R_lower ho4 (qm5 (by repeat (first | (with_reducible first | exact HB.out | apply qg5 | apply qh5 | apply qi5) | exact HB.out)))); have n1_ := qk5 (ql5 (by repeat (first | (with_reducible first | exact HB.out | apply qg5 | apply qh5 | apply qi5) | exact HB.out)) hb); clear HB; have HO187 := n0_; have HB := n1_; clear n0_ n1_; clear hb ho4))
  go_loopg [5, 6] k (fun kq v5 v6 w' => ∃ (x5_1 : List Int) (x6_1 : Int), v6 = .int .i64 x6_1 ∧ Aside0 (spec_l03Key.l0 kq a0 a1 x5_1 x6_1 = some r) ∧ Aside0 (kq ≤ k) ∧ Aside0 (Kd.R (Kd.int .u8) 5 w' w.heap.size (fun _ => True) v5 x5_1) ∧ Aside0 (Below w.heap.size w w'))
  case atStart => exact ⟨(y185), (0), (by first | rfl | (simp; done) | (simp [*]; done)), H', ⟨Nat.le_refl _⟩, ⟨by (with_reducible repeat (first | apply qd5 | apply qe5 | apply qf5)); exact HO187.out⟩, ⟨by repeat (first | (with_reducible first | exact HB.out | apply qg5 | apply qh5 | apply qi5) | exact HB.out)⟩⟩
  case round =>
    clear H'
    try clear p2
    obtain ⟨x5_1, x6_1, rfl, HA, HK1, HO_5, HB⟩ := hrel
    cases gk with
    | zero => exact absurd HA.out (by simp [spec_l03Key.l0])
    | succ k1 =>
      have H := HA.out
      clear HA
      simp only [spec_l03Key.l0] at H
      by_cases c5 : x6_1 < 32
      · rw [if_pos c5] at H
        have c5b0 : decide (x6_1 < 32) = true := decide_eq_true c5
        clear c5
        have H' := qk5 H
        clear H
        go_wp2
        go_loopg [5, 7] k1 (fun kq v5 v7 w' => ∃ (x5_2 : List Int) (x7_2 : Int), v7 = .int .i64 x7_2 ∧ Aside0 (spec_l03Key.l1 kq a0 a1 x5_2 x6_1 x7_2 = some r) ∧ Aside0 (kq ≤ k1) ∧ Aside0 (Kd.R (Kd.int .u8) 5 w' w.heap.size (fun _ => True) v5 x5_2) ∧ Aside0 (Below w.heap.size w w'))
        case atStart => exact ⟨(x5_1), (0), (by first | rfl | (simp; done) | (simp [*]; done)), H', ⟨Nat.le_refl _⟩, ⟨by (with_reducible repeat (first | apply qd5 | apply qe5 | apply qf5)); exact HO_5.out⟩, ⟨by repeat (first | (with_reducible first | exact HB.out | apply qg5 | apply qh5 | apply qi5) | exact HB.out)⟩⟩
        case round =>
          clear H'
          try clear p2
          try clear c5
          try clear c5b0
          try clear p2
          obtain ⟨x5_2, x7_2, rfl, HA, HK2, HO_5, HB⟩ := hrel
          cases gk with
          | zero => exact absurd HA.out (by simp [spec_l03Key.l1])
          | succ k2 =>
            have H := HA.out
            clear HA
            simp only [spec_l03Key.l1] at H
            by_cases c6 : x7_2 < 2
            · rw [if_pos c6] at H
              have c6b0 : decide (x7_2 < 2) = true := decide_eq_true c6
              clear c6
              replace H := Option.bind_eq_some_iff.mp H
              obtain ⟨t189, A70, H⟩ := H
              replace H : (if t189.size ≤ 9223372036854775807 then ((spec_l01Hash.f (bytesOf t189)).bind fun t193 => (if x5_2.length + t193.size < 140737488355328 then (spec_l03Key.l1 k2 a0 a1 (x5_2 ++ bytesOf t193) x6_1 (wrap64 (x7_2 + 1))) else (none))) else (none)) = some r := H
              have A7 := qk5 A70
              clear A70
              by_cases c8 : t189.size ≤ 9223372036854775807
              · rw [if_pos c8] at H
                have c8b0 := eq_true c8
                have c8b1 : decide (t189.size ≤ 9223372036854775807) = true := decide_eq_true c8
                try have c8b2 : (9223372036854775807 < t189.size) = False := eq_false (Nat.not_lt.2 c8)
                clear c8
                obtain ⟨y190, hy190⟩ : ∃ y_ : List Int, y_ = (bytesOf t189) := ⟨_, rfl⟩
                replace H : ((spec_l01Hash.f y190).bind fun t193 => (if x5_2.length + t193.size < 140737488355328 then (spec_l03Key.l1 k2 a0 a1 (x5_2 ++ bytesOf t193) x6_1 (wrap64 (x7_2 + 1))) else (none))) = some r := by first | (rw [hy190]; with_reducible exact H) | (have H2_ := (Option.bind_some _ _).symm.trans H; rw [hy190]; with_reducible exact H2_) | (have H2_ := (Option.bind_some _ _).symm.trans H; with_reducible exact H2_) | with_reducible exact H | (rw [hy190]; exact H) | exact H
                have Ny190 := qk5 hy190
                clear hy190
                replace H := Option.bind_eq_some_iff.mp H
                obtain ⟨t193, A90, H⟩ := H
                replace H : (if x5_2.length + t193.size < 140737488355328 then (spec_l03Key.l1 k2 a0 a1 (x5_2 ++ bytesOf t193) x6_1 (wrap64 (x7_2 + 1))) else (none)) = some r := H
                have A9 := qk5 A90
                clear A90
                by_cases c10 : x5_2.length + t193.size < 140737488355328
                · rw [if_pos c10] at H
                  have LMc10 := qk5 c10
                  clear c10
                  obtain ⟨y194, hy194⟩ : ∃ y_ : List Int, y_ = (x5_2 ++ bytesOf t193) := ⟨_, rfl⟩
                  replace H : (spec_l03Key.l1 k2 a0 a1 y194 x6_1 (wrap64 (x7_2 + 1))) = some r := by first | (rw [hy194]; with_reducible exact H) | (have H2_ := (Option.bind_some _ _).symm.trans H; rw [hy194]; with_reducible exact H2_) | (have H2_ := (Option.bind_some _ _).symm.trans H; with_reducible exact H2_) | with_reducible exact H | (rw [hy194]; exact H) | exact H
                  have Ny194 := qk5 hy194
                  clear hy194
                  have H' := qk5 H
                  clear H
                  go_wp2_with (first | ((with_reducible refine gate_callee (f := 108) rfl ?_); refine goesL_ (some 23) rfl rfl Tryd.func108 (by kernel_rfl) rfl #[.string a0, .int .i64 a1, .int .i64 x6_1, .int .i64 x7_2] rfl (by (try simp only [List.map_toArray, List.map_cons, List.map_nil]); first | done | rfl | (simp only [List.length_drop, List.length_take]; rfl)) ?_; (with_reducible refine (spec_l03Secret.calls a0 a1 x6_1 x7_2 t189 _ A7.out).mono ?_); rintro e w11 ⟨rfl, hb⟩; refine ⟨_, rfl, ?_⟩; have n0_ := qk5 (Kd.R_below (by (with_reducible repeat (first | apply qd5 | apply qe5 | apply qf5)); exact HO_5.out) hb); have n1_ := qk5 (ql5 (by repeat (first | (with_reducible first | exact HB.out | apply qg5 | apply qh5 | apply qi5) | exact HB.out)) hb); clear HO_5; clear HB; have HO_5 := n0_; have HB := n1_; clear n0_ n1_; (try clear hb); (try clear hb2); (try clear hk); (try clear hi)) | ((with_reducible refine gate_dst (N := 24) rfl ?_); refine R_bytes _ 5 rfl (N := 24) rfl 9 22 _ rfl t189 rfl Tryd.underlying9 Tryd.underlying22 Tryd.underlying5 (ok := fun _ => True) trivial (of_decide_eq_true (by first | (with_reducible assumption) | assumption)) (Below.refl _ _) (Nat.le_refl _) ?_; intro v191 w12 ho13 hb hg_ hnew_; clear hg_ hnew_; (first | rw [← Ny190.out] at ho13 | (simp only [Int.reduceToNat] at ho13; rw [← Ny190.out] at ho13)); have n0_ := qk5 (Kd.R_elder' (by (with_reducible repeat (first | apply qd5 | apply qe5 | apply qf5)); exact HO_5.out) (Kd.R_base ho13) hb); have n1_ := qk5 (Kd.R_lower (Kd.R_new' ho13 (Kd.R_lt (by (with_reducible repeat (first | apply qd5 | apply qe5 | apply qf5)); exact HO_5.out))) (qm5 (by repeat (first | (with_reducible first | exact HB.out | apply qg5 | apply qh5 | apply qi5) | exact HB.out)))); have n2_ := qk5 (ql5 (by repeat (first | (with_reducible first | exact HB.out | apply qg5 | apply qh5 | apply qi5) | exact HB.out)) hb); clear HO_5; clear HB; have HO_5 := n0_; have HO192 := n1_; have HB := n2_; clear n0_ n1_ n2_; clear hb ho13; obtain ⟨Ao14, co14, eo14⟩ := Kd.R_slice HO192.out; subst eo14) | ((with_reducible refine gate_callee (f := 54) rfl ?_); refine goesL_ (some 25) rfl rfl Tryd.func54 (by kernel_rfl) rfl #[.slice Ao14 y190.length co14] rfl (by (try simp only [List.map_toArray, List.map_cons, List.map_nil]); first | done | rfl | (simp only [List.length_drop, List.length_take]; rfl)) ?_; (with_reducible refine (spec_l01Hash.calls _ _ y190 t193 _ ?side1 ?side2 A9.out).mono ?_); (case side1 => repeat (first | exact (Kd.R_reads' HO192.out).2.2 | (with_reducible refine Kd.C_alloc ?_ _) | (with_reducible refine Kd.C_drewN ?_ _) | (with_reducible refine Kd.C_drew ?_))); (case side2 => exact (Kd.R_reads' HO192.out).2.1); rintro e w15 ⟨rfl, hb⟩; refine ⟨_, rfl, ?_⟩; have n0_ := qk5 (Kd.R_below (by (with_reducible repeat (first | apply qd5 | apply qe5 | apply qf5)); exact HO_5.out) hb); have n1_ := qk5 (Kd.R_below (by (with_reducible repeat (first | apply qd5 | apply qe5 | apply qf5)); exact HO192.out) hb); have n2_ := qk5 (ql5 (by repeat (first | (with_reducible first | exact HB.out | apply qg5 | apply qh5 | apply qi5) | exact HB.out)) hb); clear HO_5; clear HO192; clear HB; have HO_5 := n0_; have HO192 := n1_; have HB := n2_; clear n0_ n1_ n2_; (try clear hb); (try clear hb2); (try clear hk); (try clear hi)) | (at_builtin; refine R_append_str (w0 := w) w.heap.size rfl (.tmp 18) _ 22 9 5 rfl Tryd.underlying22 Tryd.underlying9 info5 u5 x5_2 t193 (fun k_ => some k_ ≠ (.slice Ao14 y190.length co14 : Value).ownBlock) rfl rfl ?aO ?aF ?aB ?aS ?aL ?_; (case aB => exact (by repeat (first | (with_reducible first | exact HB.out | apply qg5 | apply qh5 | apply qi5) | exact HB.out))); (case aF => exact (fun k_ hk => Kd.fresh' (Kd.R_lt (by (with_reducible repeat (first | apply qd5 | apply qe5 | apply qf5)); exact HO192.out)) k_ hk)); (case aO => exact (by (with_reducible repeat (first | apply qd5 | apply qe5 | apply qf5)); exact Kd.R_mono HO_5.out (fun _ hk => hk.2))); (case aS => exact (qm5 (by repeat (first | (with_reducible first | exact HB.out | apply qg5 | apply qh5 | apply qi5) | exact HB.out)))); (case aL => have := LMc10.out; omega); intro v195 w16 ho hb hg hat; rw [← Ny194.out] at ho; have n0_ := qk5 (Kd.R_after (ok := (fun _ => True)) (by (with_reducible repeat (first | apply qd5 | apply qe5 | apply qf5)); exact HO192.out) hg hat); have n1_ := qk5 (hb); have n2_ := qk5 (ho); clear HO192; clear HB; clear HO_5; have HO192 := n0_; have HB := n1_; have HO196 := n2_; clear n0_ n1_ n2_; clear ho hb hg hat))
                  go_roundg k2
                  case measure => have := HK1.out; have := HK2.out; omega
                  case rel => exact ⟨(y194), (wrap64 (x7_2 + 1)), (by first | rfl | (simp; done) | (simp [*]; done)), H', ⟨by have := HK1.out; have := HK2.out; omega⟩, ⟨by (with_reducible repeat (first | apply qd5 | apply qe5 | apply qf5)); exact Kd.R_mono HO196.out (fun _ hk => trivial)⟩, ⟨by repeat (first | (with_reducible first | exact HB.out | apply qg5 | apply qh5 | apply qi5) | exact HB.out)⟩⟩
                · rw [if_neg c10] at H
                  exact absurd H (by simp)
              · rw [if_neg c8] at H
                exact absurd H (by simp)
            · rw [if_neg c6] at H
              have c6b0 : decide (x7_2 < 2) = false := decide_eq_false c6
              clear c6
              have H' := qk5 H
              clear H
              go_wp2
              go_roundg k2
              case measure => have := HK1.out; have := HK2.out; omega
              case rel => exact ⟨(x5_2), (wrap64 (x6_1 + 1)), (by first | rfl | (simp; done) | (simp [*]; done)), H', ⟨by have := HK1.out; have := HK2.out; omega⟩, ⟨by (with_reducible repeat (first | apply qd5 | apply qe5 | apply qf5)); exact HO_5.out⟩, ⟨by repeat (first | (with_reducible first | exact HB.out | apply qg5 | apply qh5 | apply qi5) | exact HB.out)⟩⟩
      · rw [if_neg c5] at H
        have c5b0 : decide (x6_1 < 32) = false := decide_eq_false c5
        clear c5
        replace H := Option.bind_eq_some_iff.mp H
        obtain ⟨t188, A170, H⟩ := H
        replace H : (some t188) = some r := H
        have A17 := qk5 A170
        clear A170
        obtain rfl := Option.some.inj H
        obtain ⟨Ao18, co18, eo18⟩ := Kd.R_slice HO_5.out
        subst eo18
        go_wp2_with (first | ((with_reducible refine gate_callee (f := 54) rfl ?_); refine goesL_ (some 28) rfl rfl Tryd.func54 (by kernel_rfl) rfl #[.slice Ao18 x5_1.length co18] rfl (by (try simp only [List.map_toArray, List.map_cons, List.map_nil]); first | done | rfl | (simp only [List.length_drop, List.length_take]; rfl)) ?_; (with_reducible refine (spec_l01Hash.calls _ _ x5_1 t188 _ ?side1 ?side2 A17.out).mono ?_); (case side1 => repeat (first | exact (Kd.R_reads' HO_5.out).2.2 | (with_reducible refine Kd.C_alloc ?_ _) | (with_reducible refine Kd.C_drewN ?_ _) | (with_reducible refine Kd.C_drew ?_))); (case side2 => exact (Kd.R_reads' HO_5.out).2.1); rintro e w19 ⟨rfl, hb⟩; refine ⟨_, rfl, ?_⟩; have n0_ := qk5 (Kd.R_below (by (with_reducible repeat (first | apply qd5 | apply qe5 | apply qf5)); exact HO_5.out) hb); have n1_ := qk5 (ql5 (by repeat (first | (with_reducible first | exact HB.out | apply qg5 | apply qh5 | apply qi5) | exact HB.out)) hb); clear HO_5; clear HB; have HO_5 := n0_; have HB := n1_; clear n0_ n1_; (try clear hb); (try clear hb2); (try clear hk); (try clear hi)))
        go_ret
        exact ⟨by first | rfl | (simp [errW_none, errW_some] <;> rfl) | (simp [*, errW_none, errW_some] <;> rfl), by repeat (first | (with_reducible first | exact HB.out | apply qg5 | apply qh5 | apply qi5) | exact HB.out)⟩

/-! ### spec_l03Keys: function 70 -/
def spec_l03Keys.l0 : Nat → ByteArray → List ByteArray → Int → Option (List ByteArray)
  | 0, _, _, _ => none
  | k + 1, x0, x3, x4 => if x4 < 8 then ((spec_l03Key.f k x0 x4).bind fun t200 => (if x3.length < 8796093022208 then (spec_l03Keys.l0 k x0 (x3 ++ [t200]) (wrap64 (x4 + 1))) else (none))) else (some x3)
def spec_l03Keys.f (k : Nat) (a0 : ByteArray) : Option (List ByteArray) := spec_l03Keys.l0 k a0 (([] : List ByteArray)) 0
theorem spec_l03Keys.mono_l : ∀ k, (∀ y0 y1 y2, LeO (spec_l03Keys.l0 k y0 y1 y2) (spec_l03Keys.l0 (k + 1) y0 y1 y2))
  | 0 => fun _ _ _ r h => by simp [spec_l03Keys.l0] at h
  | k + 1 => by
    have ih0 := spec_l03Keys.mono_l k
    · intro y0 y1 y2
      unfold spec_l03Keys.l0
      repeat' first
      | (with_reducible exact ih0 _ _ _)
      | (with_reducible exact spec_l03Key.mono _ _ _)
      | (with_reducible exact LeO.refl _)
      | (with_reducible exact LeO.none _)
      | (with_reducible refine LeO.ite ?_ ?_)
      | (with_reducible refine LeO.bind ?_ (fun _ => ?_))
      | exact ih0 _ _ _
      | exact spec_l03Key.mono _ _ _
      | exact LeO.none _
      | refine LeO.ite ?_ ?_
      | refine LeO.bind ?_ (fun _ => ?_)
theorem spec_l03Keys.mono : ∀ a0 k, LeO (spec_l03Keys.f k a0) (spec_l03Keys.f (k + 1) a0) := by
  intro a0 k
  have ih0 := spec_l03Keys.mono_l k
  unfold spec_l03Keys.f
  repeat' first
      | (with_reducible exact ih0 _ _ _)
      | (with_reducible exact spec_l03Key.mono _ _ _)
      | (with_reducible exact LeO.refl _)
      | (with_reducible exact LeO.none _)
      | (with_reducible refine LeO.ite ?_ ?_)
      | (with_reducible refine LeO.bind ?_ (fun _ => ?_))
      | exact ih0 _ _ _
      | exact spec_l03Key.mono _ _ _
      | exact LeO.none _
      | refine LeO.ite ?_ ?_
      | refine LeO.bind ?_ (fun _ => ?_)
set_option maxHeartbeats 8000000 in
set_option maxRecDepth 100000 in
theorem spec_l03Keys.calls (k : Nat) (a0 : ByteArray) (r : List ByteArray) (w : World) (h : spec_l03Keys.f k a0 = some r) :
    Calls Tryd.prog 70 #[.string a0] w fun e w' => ∃ v0_ : Value, e = .returned (v0_) ∧ Kd.R Kd.string 9 w' w.heap.size (fun _ => True) v0_ r ∧ Below w.heap.size w w' := by
  have HB := qk5 (Below.refl w.heap.size w)
  have H : (spec_l03Keys.l0 k a0 (([] : List ByteArray)) 0) = some r := h
  clear h
  obtain ⟨y197, hy197⟩ : ∃ y_ : List ByteArray, y_ = (([] : List ByteArray)) := ⟨_, rfl⟩
  replace H : (spec_l03Keys.l0 k a0 y197 0) = some r := by first | (rw [hy197]; with_reducible exact H) | (have H2_ := (Option.bind_some _ _).symm.trans H; rw [hy197]; with_reducible exact H2_) | (have H2_ := (Option.bind_some _ _).symm.trans H; with_reducible exact H2_) | with_reducible exact H | (rw [hy197]; exact H) | exact H
  have Ny197 := qk5 hy197
  clear hy197
  have H' := qk5 H
  clear H
  go_enter Tryd.func70, Tryd.ntmps70
  go_wp2_with (first | ((with_reducible refine gate_dst (N := 5) rfl ?_); refine Kd.R_lit Kd.string _ 9 ?hg (N := 5) ?hd (xs := ([] : List ByteArray)) (inner := []) (ok := fun _ => True) (okp := fun _ => True) ?hr ?hp (fun _ hk => hk) trivial (Below.refl _ _) (Nat.le_refl _) (by simp) ?_; (case hd => rfl); (case hg => rfl); (case hr => first | (go_simp; done) | (go_simp; rfl)); (case hp => exact (Reps.none _ _)); intro v198 w2 ho3 hb hg_ hnew_; clear hg_ hnew_; (first | rw [← Ny197.out] at ho3 | (simp only [Int.reduceToNat] at ho3; rw [← Ny197.out] at ho3)); have n0_ := qk5 (Kd.R_lower ho3 (qm5 (by repeat (first | (with_reducible first | exact HB.out | apply qg5 | apply qh5 | apply qi5) | exact HB.out)))); have n1_ := qk5 (ql5 (by repeat (first | (with_reducible first | exact HB.out | apply qg5 | apply qh5 | apply qi5) | exact HB.out)) hb); clear HB; have HO199 := n0_; have HB := n1_; clear n0_ n1_; clear hb ho3))
  go_loopg [3, 4] k (fun kq v3 v4 w' => ∃ (x3_1 : List ByteArray) (x4_1 : Int), v4 = .int .i64 x4_1 ∧ Aside0 (spec_l03Keys.l0 kq a0 x3_1 x4_1 = some r) ∧ Aside0 (kq ≤ k) ∧ Aside0 (Kd.R Kd.string 9 w' w.heap.size (fun _ => True) v3 x3_1) ∧ Aside0 (Below w.heap.size w w'))
  case atStart => exact ⟨(y197), (0), (by first | rfl | (simp; done) | (simp [*]; done)), H', ⟨Nat.le_refl _⟩, ⟨by (with_reducible repeat (first | apply qd5 | apply qe5 | apply qf5)); exact HO199.out⟩, ⟨by repeat (first | (with_reducible first | exact HB.out | apply qg5 | apply qh5 | apply qi5) | exact HB.out)⟩⟩
  case round =>
    clear H'
    try clear p2
    obtain ⟨x3_1, x4_1, rfl, HA, HK1, HO_3, HB⟩ := hrel
    cases gk with
    | zero => exact absurd HA.out (by simp [spec_l03Keys.l0])
    | succ k1 =>
      have H := HA.out
      clear HA
      simp only [spec_l03Keys.l0] at H
      by_cases c4 : x4_1 < 8
      · rw [if_pos c4] at H
        have c4b0 : decide (x4_1 < 8) = true := decide_eq_true c4
        clear c4
        replace H := Option.bind_eq_some_iff.mp H
        obtain ⟨t200, A50, H⟩ := H
        replace H : (if x3_1.length < 8796093022208 then (spec_l03Keys.l0 k1 a0 (x3_1 ++ [t200]) (wrap64 (x4_1 + 1))) else (none)) = some r := H
        have A5 := qk5 A50
        clear A50
        by_cases c6 : x3_1.length < 8796093022208
        · rw [if_pos c6] at H
          have LMc6 := qk5 c6
          clear c6
          obtain ⟨y201, hy201⟩ : ∃ y_ : List ByteArray, y_ = (x3_1 ++ [t200]) := ⟨_, rfl⟩
          replace H : (spec_l03Keys.l0 k1 a0 y201 (wrap64 (x4_1 + 1))) = some r := by first | (rw [hy201]; with_reducible exact H) | (have H2_ := (Option.bind_some _ _).symm.trans H; rw [hy201]; with_reducible exact H2_) | (have H2_ := (Option.bind_some _ _).symm.trans H; with_reducible exact H2_) | with_reducible exact H | (rw [hy201]; exact H) | exact H
          have Ny201 := qk5 hy201
          clear hy201
          have H' := qk5 H
          clear H
          go_wp2_with (first | ((with_reducible refine gate_callee (f := 66) rfl ?_); refine goesL_ (some 13) rfl rfl Tryd.func66 (by kernel_rfl) rfl #[.string a0, .int .i64 x4_1] rfl (by (try simp only [List.map_toArray, List.map_cons, List.map_nil]); first | done | rfl | (simp only [List.length_drop, List.length_take]; rfl)) ?_; (with_reducible refine (spec_l03Key.calls k1 a0 x4_1 t200 _ A5.out).mono ?_); rintro e w7 ⟨rfl, hb⟩; refine ⟨_, rfl, ?_⟩; have n0_ := qk5 (Kd.R_below (by (with_reducible repeat (first | apply qd5 | apply qe5 | apply qf5)); exact HO_3.out) hb); have n1_ := qk5 (ql5 (by repeat (first | (with_reducible first | exact HB.out | apply qg5 | apply qh5 | apply qi5) | exact HB.out)) hb); clear HO_3; clear HB; have HO_3 := n0_; have HB := n1_; clear n0_ n1_; (try clear hb); (try clear hb2); (try clear hk); (try clear hi)) | ((with_reducible refine gate_builtin (b := .append) (xs := #[.tmp 10, .tmp 14]) rfl ?_); at_builtin; refine Kd.R_append Kd.string (w0 := w) w.heap.size rfl (.tmp 10) (.tmp 14) 31 9 (.string ⟨#[]⟩) 16 rfl Tryd.underlying31 info9 rfl (by decide) (by omega) u3 x3_1 t200 [.string t200] (fun _ => True) (fun _ => False) rfl rfl ?aP (fun _ hk => hk.elim) ?aF ?aO ?aB ?aS ?aL ?_; (case aP => exact rfl); (case aB => exact (by repeat (first | (with_reducible first | exact HB.out | apply qg5 | apply qh5 | apply qi5) | exact HB.out))); (case aF => exact (fun _ _ => trivial)); (case aO => exact (by (with_reducible repeat (first | apply qd5 | apply qe5 | apply qf5)); exact HO_3.out)); (case aS => exact (qm5 (by repeat (first | (with_reducible first | exact HB.out | apply qg5 | apply qh5 | apply qi5) | exact HB.out)))); (case aL => have := LMc6.out; omega); intro v202 w8 ho hb hg hat; rw [← Ny201.out] at ho; have n0_ := qk5 (hb); have n1_ := qk5 (ho); clear HB; clear HO_3; have HB := n0_; have HO203 := n1_; clear n0_ n1_; clear ho hb hg hat))
          go_roundg k1
          case measure => have := HK1.out; omega
          case rel => exact ⟨(y201), (wrap64 (x4_1 + 1)), (by first | rfl | (simp; done) | (simp [*]; done)), H', ⟨by have := HK1.out; omega⟩, ⟨by (with_reducible repeat (first | apply qd5 | apply qe5 | apply qf5)); exact HO203.out⟩, ⟨by repeat (first | (with_reducible first | exact HB.out | apply qg5 | apply qh5 | apply qi5) | exact HB.out)⟩⟩
        · rw [if_neg c6] at H
          exact absurd H (by simp)
      · rw [if_neg c4] at H
        have c4b0 : decide (x4_1 < 8) = false := decide_eq_false c4
        clear c4
        obtain rfl := Option.some.inj H
        go_wp2
        go_ret
        exact ⟨_, by first | rfl | (simp [errW_none, errW_some] <;> rfl) | (simp [*, errW_none, errW_some] <;> rfl), by (with_reducible repeat (first | apply qd5 | apply qe5 | apply qf5)); exact HO_3.out, by repeat (first | (with_reducible first | exact HB.out | apply qg5 | apply qh5 | apply qi5) | exact HB.out)⟩

/-! ### spec_l03Bits: function 76 -/
def spec_l03Bits.l0 : Nat → ByteArray → List Int → Int → Option (ByteArray)
  | 0, _, _, _ => none
  | k + 1, x3, x4, x5 => if x5 < 32 then (if 0 ≤ (wrap64 (Int.tdiv x5 8)) then (if (wrap64 (Int.tdiv x5 8)) < (x3.size : Int) then (if 0 ≤ (IntKind.u64.wrap (wrap64 (7 - (Int.tmod x5 8)))) then (if x4.length < 140737488355328 then (spec_l03Bits.l0 k x3 (x4 ++ [(48 + (Go.bits .and .u8 (shr .u8 (bt x3 (wrap64 (Int.tdiv x5 8))) (IntKind.u64.wrap (wrap64 (7 - (Int.tmod x5 8))))) 1)) % 256]) (wrap64 (x5 + 1))) else (none)) else (none)) else (none)) else (none)) else (some (strOfNums x4))
def spec_l03Bits.f (k : Nat) (a0 : ByteArray) : Option (ByteArray) := if 6 + a0.size ≤ 9223372036854775807 then (if ((⟨#[100, 105, 103, 101, 115, 116]⟩ : ByteArray) ++ a0).size ≤ 9223372036854775807 then ((spec_l01Hash.f (bytesOf ((⟨#[100, 105, 103, 101, 115, 116]⟩ : ByteArray) ++ a0))).bind fun t207 => (spec_l03Bits.l0 k t207 (([] : List Int)) 0)) else (none)) else (none)
theorem spec_l03Bits.mono_l : ∀ k, (∀ y0 y1 y2, LeO (spec_l03Bits.l0 k y0 y1 y2) (spec_l03Bits.l0 (k + 1) y0 y1 y2))
  | 0 => fun _ _ _ r h => by simp [spec_l03Bits.l0] at h
  | k + 1 => by
    have ih0 := spec_l03Bits.mono_l k
    · intro y0 y1 y2
      unfold spec_l03Bits.l0
      repeat' first
      | (with_reducible exact ih0 _ _ _)
      | (with_reducible exact LeO.refl _)
      | (with_reducible exact LeO.none _)
      | (with_reducible refine LeO.ite ?_ ?_)
      | (with_reducible refine LeO.bind ?_ (fun _ => ?_))
      | exact ih0 _ _ _
      | exact LeO.none _
      | refine LeO.ite ?_ ?_
      | refine LeO.bind ?_ (fun _ => ?_)
theorem spec_l03Bits.mono : ∀ a0 k, LeO (spec_l03Bits.f k a0) (spec_l03Bits.f (k + 1) a0) := by
  intro a0 k
  have ih0 := spec_l03Bits.mono_l k
  unfold spec_l03Bits.f
  repeat' first
      | (with_reducible exact ih0 _ _ _)
      | (with_reducible exact LeO.refl _)
      | (with_reducible exact LeO.none _)
      | (with_reducible refine LeO.ite ?_ ?_)
      | (with_reducible refine LeO.bind ?_ (fun _ => ?_))
      | exact ih0 _ _ _
      | exact LeO.none _
      | refine LeO.ite ?_ ?_
      | refine LeO.bind ?_ (fun _ => ?_)
set_option maxHeartbeats 8000000 in
set_option maxRecDepth 100000 in
theorem spec_l03Bits.calls (k : Nat) (a0 : ByteArray) (r : ByteArray) (w : World) (h : spec_l03Bits.f k a0 = some r) :
    Calls Tryd.prog 76 #[.string a0] w fun e w' => e = .returned (.string r) ∧ Below w.heap.size w w' := by
  have HB := qk5 (Below.refl w.heap.size w)
  have H : (if 6 + a0.size ≤ 9223372036854775807 then (if ((⟨#[100, 105, 103, 101, 115, 116]⟩ : ByteArray) ++ a0).size ≤ 9223372036854775807 then ((spec_l01Hash.f (bytesOf ((⟨#[100, 105, 103, 101, 115, 116]⟩ : ByteArray) ++ a0))).bind fun t207 => (spec_l03Bits.l0 k t207 (([] : List Int)) 0)) else (none)) else (none)) = some r := h
  clear h
  by_cases c2 : 6 + a0.size ≤ 9223372036854775807
  · rw [if_pos c2] at H
    have c2b0 := eq_true c2
    have c2b1 : decide (6 + a0.size ≤ 9223372036854775807) = true := decide_eq_true c2
    try have c2b2 : (9223372036854775807 < 6 + a0.size) = False := eq_false (Nat.not_lt.2 c2)
    by_cases c3 : ((⟨#[100, 105, 103, 101, 115, 116]⟩ : ByteArray) ++ a0).size ≤ 9223372036854775807
    · rw [if_pos c3] at H
      have c3b0 := eq_true c3
      have c3b1 : decide (((⟨#[100, 105, 103, 101, 115, 116]⟩ : ByteArray) ++ a0).size ≤ 9223372036854775807) = true := decide_eq_true c3
      try have c3b2 : (9223372036854775807 < ((⟨#[100, 105, 103, 101, 115, 116]⟩ : ByteArray) ++ a0).size) = False := eq_false (Nat.not_lt.2 c3)
      (try (have c3b3 := c3; simp only [ByteArray.size_append] at c3b3; have c3b4 := eq_false (Nat.not_lt.2 c3b3)))
      obtain ⟨y204, hy204⟩ : ∃ y_ : List Int, y_ = (bytesOf ((⟨#[100, 105, 103, 101, 115, 116]⟩ : ByteArray) ++ a0)) := ⟨_, rfl⟩
      replace H : ((spec_l01Hash.f y204).bind fun t207 => (spec_l03Bits.l0 k t207 (([] : List Int)) 0)) = some r := by first | (rw [hy204]; with_reducible exact H) | (have H2_ := (Option.bind_some _ _).symm.trans H; rw [hy204]; with_reducible exact H2_) | (have H2_ := (Option.bind_some _ _).symm.trans H; with_reducible exact H2_) | with_reducible exact H | (rw [hy204]; exact H) | exact H
      have Ny204 := qk5 hy204
      clear hy204
      replace H := Option.bind_eq_some_iff.mp H
      obtain ⟨t207, A40, H⟩ := H
      replace H : (spec_l03Bits.l0 k t207 (([] : List Int)) 0) = some r := H
      have A4 := qk5 A40
      clear A40
      obtain ⟨y208, hy208⟩ : ∃ y_ : List Int, y_ = (([] : List Int)) := ⟨_, rfl⟩
      replace H : (spec_l03Bits.l0 k t207 y208 0) = some r := by first | (rw [hy208]; with_reducible exact H) | (have H2_ := (Option.bind_some _ _).symm.trans H; rw [hy208]; with_reducible exact H2_) | (have H2_ := (Option.bind_some _ _).symm.trans H; with_reducible exact H2_) | with_reducible exact H | (rw [hy208]; exact H) | exact H
      have Ny208 := qk5 hy208
      clear hy208
      have H' := qk5 H
      clear H
      go_enter Tryd.func76, Tryd.ntmps76
      go_wp2_with (first | ((with_reducible refine gate_dst (N := 8) rfl ?_); refine R_bytes _ 5 rfl (N := 8) rfl 9 22 _ rfl ((⟨#[100, 105, 103, 101, 115, 116]⟩ : ByteArray) ++ a0) rfl Tryd.underlying9 Tryd.underlying22 Tryd.underlying5 (ok := fun _ => True) trivial (of_decide_eq_true (by first | (with_reducible assumption) | assumption)) (Below.refl _ _) (Nat.le_refl _) ?_; intro v205 w5 ho6 hb hg_ hnew_; clear hg_ hnew_; (first | rw [← Ny204.out] at ho6 | (simp only [Int.reduceToNat] at ho6; rw [← Ny204.out] at ho6)); have n0_ := qk5 (Kd.R_lower ho6 (qm5 (by repeat (first | (with_reducible first | exact HB.out | apply qg5 | apply qh5 | apply qi5) | exact HB.out)))); have n1_ := qk5 (ql5 (by repeat (first | (with_reducible first | exact HB.out | apply qg5 | apply qh5 | apply qi5) | exact HB.out)) hb); clear HB; have HO206 := n0_; have HB := n1_; clear n0_ n1_; clear hb ho6; obtain ⟨Ao7, co7, eo7⟩ := Kd.R_slice HO206.out; subst eo7) | ((with_reducible refine gate_callee (f := 54) rfl ?_); refine goesL_ (some 9) rfl rfl Tryd.func54 (by kernel_rfl) rfl #[.slice Ao7 y204.length co7] rfl (by (try simp only [List.map_toArray, List.map_cons, List.map_nil]); first | done | rfl | (simp only [List.length_drop, List.length_take]; rfl)) ?_; (with_reducible refine (spec_l01Hash.calls _ _ y204 t207 _ ?side1 ?side2 A4.out).mono ?_); (case side1 => repeat (first | exact (Kd.R_reads' HO206.out).2.2 | (with_reducible refine Kd.C_alloc ?_ _) | (with_reducible refine Kd.C_drewN ?_ _) | (with_reducible refine Kd.C_drew ?_))); (case side2 => exact (Kd.R_reads' HO206.out).2.1); rintro e w8 ⟨rfl, hb⟩; refine ⟨_, rfl, ?_⟩; have n0_ := qk5 (Kd.R_below (by (with_reducible repeat (first | apply qd5 | apply qe5 | apply qf5)); exact HO206.out) hb); have n1_ := qk5 (ql5 (by repeat (first | (with_reducible first | exact HB.out | apply qg5 | apply qh5 | apply qi5) | exact HB.out)) hb); clear HO206; clear HB; have HO206 := n0_; have HB := n1_; clear n0_ n1_; (try clear hb); (try clear hb2); (try clear hk); (try clear hi)) | ((with_reducible refine gate_dst (N := 10) rfl ?_); refine Kd.R_lit (Kd.int .u8) _ 5 ?hg (N := 10) ?hd (xs := ([] : List Int)) (inner := []) (ok := fun _ => True) (okp := fun _ => True) ?hr ?hp (fun _ hk => hk) trivial (Below.refl _ _) (Nat.le_refl _) (by simp) ?_; (case hd => rfl); (case hg => rfl); (case hr => first | (go_simp; done) | (go_simp; rfl)); (case hp => exact (Reps.none _ _)); intro v209 w9 ho10 hb hg_ hnew_; clear hg_ hnew_; (first | rw [← Ny208.out] at ho10 | (simp only [Int.reduceToNat] at ho10; rw [← Ny208.out] at ho10)); have n0_ := qk5 (Kd.R_elder' (by (with_reducible repeat (first | apply qd5 | apply qe5 | apply qf5)); exact HO206.out) (Kd.R_base ho10) hb); have n1_ := qk5 (Kd.R_lower (Kd.R_new' ho10 (Kd.R_lt (by (with_reducible repeat (first | apply qd5 | apply qe5 | apply qf5)); exact HO206.out))) (qm5 (by repeat (first | (with_reducible first | exact HB.out | apply qg5 | apply qh5 | apply qi5) | exact HB.out)))); have n2_ := qk5 (ql5 (by repeat (first | (with_reducible first | exact HB.out | apply qg5 | apply qh5 | apply qi5) | exact HB.out)) hb); clear HO206; clear HB; have HO206 := n0_; have HO210 := n1_; have HB := n2_; clear n0_ n1_ n2_; clear hb ho10))
      go_loopg [4, 5] k (fun kq v4 v5 w' => ∃ (x4_1 : List Int) (x5_1 : Int), v5 = .int .i64 x5_1 ∧ Aside0 (spec_l03Bits.l0 kq t207 x4_1 x5_1 = some r) ∧ Aside0 (kq ≤ k) ∧ Aside0 (Kd.R (Kd.int .u8) 5 w' w.heap.size (fun _ => True) v4 x4_1) ∧ Aside0 (Below w.heap.size w w'))
      case atStart => exact ⟨(y208), (0), (by first | rfl | (simp; done) | (simp [*]; done)), H', ⟨Nat.le_refl _⟩, ⟨by (with_reducible repeat (first | apply qd5 | apply qe5 | apply qf5)); exact Kd.R_mono HO210.out (fun _ hk => trivial)⟩, ⟨by repeat (first | (with_reducible first | exact HB.out | apply qg5 | apply qh5 | apply qi5) | exact HB.out)⟩⟩
      case round =>
        clear H'
        try clear c2
        try clear c2b0
        try clear c2b1
        try clear c2b2
        try clear p2
        try clear c3
        try clear c3b0
        try clear c3b1
        try clear c3b2
        try clear c5
        try clear c7
        obtain ⟨x4_1, x5_1, rfl, HA, HK1, HO_4, HB⟩ := hrel
        cases gk with
        | zero => exact absurd HA.out (by simp [spec_l03Bits.l0])
        | succ k1 =>
          have H := HA.out
          clear HA
          simp only [spec_l03Bits.l0] at H
          by_cases c11 : x5_1 < 32
          · rw [if_pos c11] at H
            have c11b0 : decide (x5_1 < 32) = true := decide_eq_true c11
            clear c11
            obtain ⟨ji12, hji12⟩ : ∃ j_ : Int, (wrap64 (Int.tdiv x5_1 8)) = j_ := ⟨_, rfl⟩
            replace H : (if 0 ≤ (ji12) then (if (ji12) < (t207.size : Int) then (if 0 ≤ (IntKind.u64.wrap (wrap64 (7 - (Int.tmod x5_1 8)))) then (if x4_1.length < 140737488355328 then (spec_l03Bits.l0 k1 t207 (x4_1 ++ [(48 + (Go.bits .and .u8 (shr .u8 (bt t207 (ji12)) (IntKind.u64.wrap (wrap64 (7 - (Int.tmod x5_1 8))))) 1)) % 256]) (wrap64 (x5_1 + 1))) else (none)) else (none)) else (none)) else (none)) = some r := by first | (rw [hji12] at H; exact H) | (simp only [hji12] at H ⊢; exact H)
            have hji12w : (IntKind.i64.wrap (Int.tdiv x5_1 8)) = ji12 := (i64_w _).trans hji12
            by_cases c13 : 0 ≤ (ji12)
            · rw [if_pos c13] at H
              have c13b0 : decide (0 ≤ (ji12)) = true := decide_eq_true c13
              clear c13
              by_cases c14 : (ji12) < (t207.size : Int)
              · rw [if_pos c14] at H
                have c14b0 : decide ((ji12) < (t207.size : Int)) = true := decide_eq_true c14
                clear c14
                obtain ⟨ji16, hji16⟩ : ∃ j_ : Int, (IntKind.u64.wrap (wrap64 (7 - (Int.tmod x5_1 8)))) = j_ := ⟨_, rfl⟩
                replace H : (if 0 ≤ (ji16) then (if x4_1.length < 140737488355328 then (spec_l03Bits.l0 k1 t207 (x4_1 ++ [(48 + (Go.bits .and .u8 (shr .u8 (bt t207 (ji12)) (ji16)) 1)) % 256]) (wrap64 (x5_1 + 1))) else (none)) else (none)) = some r := by first | (rw [hji16] at H; exact H) | (simp only [hji16] at H ⊢; exact H)
                by_cases c17 : 0 ≤ (ji16)
                · rw [if_pos c17] at H
                  have c17b0 := eq_true c17
                  have c17b1 : decide (0 ≤ (ji16)) = true := decide_eq_true c17
                  clear c17
                  obtain ⟨ji18, hji18⟩ : ∃ j_ : Int, (shr .u8 (bt t207 (ji12)) (ji16)) = j_ := ⟨_, rfl⟩
                  replace H : (if x4_1.length < 140737488355328 then (spec_l03Bits.l0 k1 t207 (x4_1 ++ [(48 + (Go.bits .and .u8 (ji18) 1)) % 256]) (wrap64 (x5_1 + 1))) else (none)) = some r := by first | (rw [hji18] at H; exact H) | (simp only [hji18] at H ⊢; exact H)
                  have hji18_ : ((bt t207 (ji12)) / 2 ^ min (ji16).toNat 8) = ji18 := hji18
                  have hji18z : (ji16) ≤ 8 → ((bt t207 (ji12)) / 2 ^ (ji16).toNat) = ji18 := shr_small hji18
                  by_cases c19 : x4_1.length < 140737488355328
                  · rw [if_pos c19] at H
                    have LMc19 := qk5 c19
                    clear c19
                    obtain ⟨y211, hy211⟩ : ∃ y_ : List Int, y_ = (x4_1 ++ [(48 + (Go.bits .and .u8 (ji18) 1)) % 256]) := ⟨_, rfl⟩
                    replace H : (spec_l03Bits.l0 k1 t207 y211 (wrap64 (x5_1 + 1))) = some r := by first | (rw [hy211]; with_reducible exact H) | (have H2_ := (Option.bind_some _ _).symm.trans H; rw [hy211]; with_reducible exact H2_) | (have H2_ := (Option.bind_some _ _).symm.trans H; with_reducible exact H2_) | with_reducible exact H | (rw [hy211]; exact H) | exact H
                    have Ny211 := qk5 hy211
                    clear hy211
                    have H' := qk5 H
                    clear H
                    have p15 : 0 ≤ ((ji12) : Int) := of_decide_eq_true (by first | (with_reducible assumption) | assumption)
                    have q15 : (ji12) < (t207.size : Int) := of_decide_eq_true (by first | (with_reducible assumption) | assumption)
                    have hx15 := bt_at t207 (ji12)
                    have bl15 := (bt_range t207 (ji12)).1
                    have bh15 := (bt_range t207 (ji12)).2
                    replace p15 := eq_true p15
                    replace q15 := eq_true q15
                    go_wp2_with (first | ((with_reducible refine gate_builtin (b := .append) (xs := #[.tmp 15, .tmp 27]) rfl ?_); at_builtin; refine Kd.R_append (Kd.int .u8) (w0 := w) w.heap.size rfl (.tmp 15) (.tmp 27) 22 5 (.int .u8 0) 1 rfl Tryd.underlying22 info5 rfl (by decide) (by omega) u4 x4_1 ((48 + (Go.bits .and .u8 (ji18) 1)) % 256) [.int .u8 ((48 + (Go.bits .and .u8 (ji18) 1)) % 256)] (fun _ => True) (fun _ => False) rfl rfl ?aP (fun _ hk => hk.elim) ?aF ?aO ?aB ?aS ?aL ?_; (case aP => exact rfl); (case aB => exact (by repeat (first | (with_reducible first | exact HB.out | apply qg5 | apply qh5 | apply qi5) | exact HB.out))); (case aF => exact (fun _ _ => trivial)); (case aO => exact (by (with_reducible repeat (first | apply qd5 | apply qe5 | apply qf5)); exact HO_4.out)); (case aS => exact (qm5 (by repeat (first | (with_reducible first | exact HB.out | apply qg5 | apply qh5 | apply qi5) | exact HB.out)))); (case aL => have := LMc19.out; omega); intro v212 w20 ho hb hg hat; rw [← Ny211.out] at ho; have n0_ := qk5 (hb); have n1_ := qk5 (ho); clear HB; clear HO_4; have HB := n0_; have HO213 := n1_; clear n0_ n1_; clear ho hb hg hat))
                    go_roundg k1
                    case measure => have := HK1.out; omega
                    case rel => exact ⟨(y211), (wrap64 (x5_1 + 1)), (by first | rfl | (simp; done) | (simp [*]; done)), H', ⟨by have := HK1.out; omega⟩, ⟨by (with_reducible repeat (first | apply qd5 | apply qe5 | apply qf5)); exact HO213.out⟩, ⟨by repeat (first | (with_reducible first | exact HB.out | apply qg5 | apply qh5 | apply qi5) | exact HB.out)⟩⟩
                  · rw [if_neg c19] at H
                    exact absurd H (by simp)
                · rw [if_neg c17] at H
                  exact absurd H (by simp)
              · rw [if_neg c14] at H
                exact absurd H (by simp)
            · rw [if_neg c13] at H
              exact absurd H (by simp)
          · rw [if_neg c11] at H
            have c11b0 : decide (x5_1 < 32) = false := decide_eq_false c11
            clear c11
            obtain rfl := Option.some.inj H
            have hcv21 := own_string (P := Tryd.prog) Tryd.underlying22 Tryd.underlying5 Tryd.underlying9 (Kd.own_of_R HO_4.out)
            go_wp2
            go_ret
            exact ⟨by first | rfl | (simp [errW_none, errW_some] <;> rfl) | (simp [*, errW_none, errW_some] <;> rfl), by repeat (first | (with_reducible first | exact HB.out | apply qg5 | apply qh5 | apply qi5) | exact HB.out)⟩
    · rw [if_neg c3] at H
      exact absurd H (by simp)
  · rw [if_neg c2] at H
    exact absurd H (by simp)

/-! ### spec_l03Node: function 77 -/
def spec_l03Node.f (a0 : ByteArray) (a1 : ByteArray) : Option (ByteArray) := if 4 + a0.size ≤ 9223372036854775807 then (if ((⟨#[110, 111, 100, 101]⟩ : ByteArray) ++ a0).size + a1.size ≤ 9223372036854775807 then (if (((⟨#[110, 111, 100, 101]⟩ : ByteArray) ++ a0) ++ a1).size ≤ 9223372036854775807 then ((spec_l01Hash.f (bytesOf (((⟨#[110, 111, 100, 101]⟩ : ByteArray) ++ a0) ++ a1))).bind fun t217 => (some t217)) else (none)) else (none)) else (none)
set_option maxHeartbeats 8000000 in
set_option maxRecDepth 100000 in
theorem spec_l03Node.calls (a0 : ByteArray) (a1 : ByteArray) (r : ByteArray) (w : World) (h : spec_l03Node.f a0 a1 = some r) :
    Calls Tryd.prog 77 #[.string a0, .string a1] w fun e w' => e = .returned (.string r) ∧ Below w.heap.size w w' := by
  have HB := qk5 (Below.refl w.heap.size w)
  have H : (if 4 + a0.size ≤ 9223372036854775807 then (if ((⟨#[110, 111, 100, 101]⟩ : ByteArray) ++ a0).size + a1.size ≤ 9223372036854775807 then (if (((⟨#[110, 111, 100, 101]⟩ : ByteArray) ++ a0) ++ a1).size ≤ 9223372036854775807 then ((spec_l01Hash.f (bytesOf (((⟨#[110, 111, 100, 101]⟩ : ByteArray) ++ a0) ++ a1))).bind fun t217 => (some t217)) else (none)) else (none)) else (none)) = some r := h
  clear h
  by_cases c3 : 4 + a0.size ≤ 9223372036854775807
  · rw [if_pos c3] at H
    have c3b0 := eq_true c3
    have c3b1 : decide (4 + a0.size ≤ 9223372036854775807) = true := decide_eq_true c3
    try have c3b2 : (9223372036854775807 < 4 + a0.size) = False := eq_false (Nat.not_lt.2 c3)
    by_cases c4 : ((⟨#[110, 111, 100, 101]⟩ : ByteArray) ++ a0).size + a1.size ≤ 9223372036854775807
    · rw [if_pos c4] at H
      have c4b0 := eq_true c4
      have c4b1 : decide (((⟨#[110, 111, 100, 101]⟩ : ByteArray) ++ a0).size + a1.size ≤ 9223372036854775807) = true := decide_eq_true c4
      try have c4b2 : (9223372036854775807 < ((⟨#[110, 111, 100, 101]⟩ : ByteArray) ++ a0).size + a1.size) = False := eq_false (Nat.not_lt.2 c4)
      (try (have c4b3 := c4; simp only [ByteArray.size_append] at c4b3; have c4b4 := eq_false (Nat.not_lt.2 c4b3)))
      (try (have c4b5 : (9223372036854775807 < 4 + a0.size + a1.size) = False := eq_false (by have h_ := c4; simp only [ByteArray.size_append] at h_; have hl0_ : ((⟨#[110, 111, 100, 101]⟩ : ByteArray)).size = 4 := rfl; omega)))
      by_cases c5 : (((⟨#[110, 111, 100, 101]⟩ : ByteArray) ++ a0) ++ a1).size ≤ 9223372036854775807
      · rw [if_pos c5] at H
        have c5b0 := eq_true c5
        have c5b1 : decide ((((⟨#[110, 111, 100, 101]⟩ : ByteArray) ++ a0) ++ a1).size ≤ 9223372036854775807) = true := decide_eq_true c5
        try have c5b2 : (9223372036854775807 < (((⟨#[110, 111, 100, 101]⟩ : ByteArray) ++ a0) ++ a1).size) = False := eq_false (Nat.not_lt.2 c5)
        (try (have c5b3 := c5; simp only [ByteArray.size_append] at c5b3; have c5b4 := eq_false (Nat.not_lt.2 c5b3)))
        obtain ⟨y214, hy214⟩ : ∃ y_ : List Int, y_ = (bytesOf (((⟨#[110, 111, 100, 101]⟩ : ByteArray) ++ a0) ++ a1)) := ⟨_, rfl⟩
        replace H : ((spec_l01Hash.f y214).bind fun t217 => (some t217)) = some r := by first | (rw [hy214]; with_reducible exact H) | (have H2_ := (Option.bind_some _ _).symm.trans H; rw [hy214]; with_reducible exact H2_) | (have H2_ := (Option.bind_some _ _).symm.trans H; with_reducible exact H2_) | with_reducible exact H | (rw [hy214]; exact H) | exact H
        have Ny214 := qk5 hy214
        clear hy214
        replace H := Option.bind_eq_some_iff.mp H
        obtain ⟨t217, A60, H⟩ := H
        replace H : (some t217) = some r := H
        have A6 := qk5 A60
        clear A60
        obtain rfl := Option.some.inj H
        go_enter Tryd.func77, Tryd.ntmps77
        go_wp2_with (first | ((with_reducible refine gate_dst (N := 9) rfl ?_); refine R_bytes _ 5 rfl (N := 9) rfl 9 22 _ rfl (((⟨#[110, 111, 100, 101]⟩ : ByteArray) ++ a0) ++ a1) rfl Tryd.underlying9 Tryd.underlying22 Tryd.underlying5 (ok := fun _ => True) trivial (of_decide_eq_true (by first | (with_reducible assumption) | assumption)) (Below.refl _ _) (Nat.le_refl _) ?_; intro v215 w7 ho8 hb hg_ hnew_; clear hg_ hnew_; (first | rw [← Ny214.out] at ho8 | (simp only [Int.reduceToNat] at ho8; rw [← Ny214.out] at ho8)); have n0_ := qk5 (Kd.R_lower ho8 (qm5 (by repeat (first | (with_reducible first | exact HB.out | apply qg5 | apply qh5 | apply qi5) | exact HB.out)))); have n1_ := qk5 (ql5 (by repeat (first | (with_reducible first | exact HB.out | apply qg5 | apply qh5 | apply qi5) | exact HB.out)) hb); clear HB; have HO216 := n0_; have HB := n1_; clear n0_ n1_; clear hb ho8; obtain ⟨Ao9, co9, eo9⟩ := Kd.R_slice HO216.out; subst eo9) | ((with_reducible refine gate_callee (f := 54) rfl ?_); refine goesL_ (some 10) rfl rfl Tryd.func54 (by kernel_rfl) rfl #[.slice Ao9 y214.length co9] rfl (by (try simp only [List.map_toArray, List.map_cons, List.map_nil]); first | done | rfl | (simp only [List.length_drop, List.length_take]; rfl)) ?_; (with_reducible refine (spec_l01Hash.calls _ _ y214 t217 _ ?side1 ?side2 A6.out).mono ?_); (case side1 => repeat (first | exact (Kd.R_reads' HO216.out).2.2 | (with_reducible refine Kd.C_alloc ?_ _) | (with_reducible refine Kd.C_drewN ?_ _) | (with_reducible refine Kd.C_drew ?_))); (case side2 => exact (Kd.R_reads' HO216.out).2.1); rintro e w10 ⟨rfl, hb⟩; refine ⟨_, rfl, ?_⟩; have n0_ := qk5 (Kd.R_below (by (with_reducible repeat (first | apply qd5 | apply qe5 | apply qf5)); exact HO216.out) hb); have n1_ := qk5 (ql5 (by repeat (first | (with_reducible first | exact HB.out | apply qg5 | apply qh5 | apply qi5) | exact HB.out)) hb); clear HO216; clear HB; have HO216 := n0_; have HB := n1_; clear n0_ n1_; (try clear hb); (try clear hb2); (try clear hk); (try clear hi)))
        go_ret
        exact ⟨by first | rfl | (simp [errW_none, errW_some] <;> rfl) | (simp [*, errW_none, errW_some] <;> rfl), by repeat (first | (with_reducible first | exact HB.out | apply qg5 | apply qh5 | apply qi5) | exact HB.out)⟩
      · rw [if_neg c5] at H
        exact absurd H (by simp)
    · rw [if_neg c4] at H
      exact absurd H (by simp)
  · rw [if_neg c3] at H
    exact absurd H (by simp)

end Go.Proofs.YtmkaknegjahjaaaDoor.PFnChain
