-- laid by this session's program myprint.py over the kit's printer
-- aliased
import Derived.Test.YtgknilganicofaaDoorPFnExactSignNextx0
import Derived.Test.YtgknilganicofaaDoorPFnExactSignNextx4
namespace Go.Proofs.YtgknilganicofaaDoor.PFnExactSignNext
open Go.RowKit Go.Proofs.YtgknilganicofaaDoorV.PrintWords Go.Proofs.YtgknilganicofaaDoorV.PrintLast Go.Proofs.YtgknilganicofaaDoorV.PrintMore
attribute [local go_sem] max2_int min2_int max_two min_two max_three min_three max_four min_four u8_wm u32_wm   -- for this text's walks alone
set_option linter.unusedVariables false
set_option linter.unusedSimpArgs false

/-! ### spec_l01In: function 58 -/
theorem qa5 : type_of% @blk_drewN := @blk_drewN
theorem qb5 : type_of% @blk_drew := @blk_drew
theorem qc5 : type_of% @blk_alloc := @blk_alloc
theorem qd5 : type_of% @below_alloc := @below_alloc
theorem qe5 : type_of% @pw_below_drewN := @pw_below_drewN
theorem qf5 : type_of% @below_drew1 := @below_drew1
theorem qg5 : type_of% @below_set := @below_set
theorem qh5 : type_of% @Aside0.mk := @Aside0.mk
theorem qi5 : type_of% @blk_below := @blk_below
theorem qj5 : type_of% @below_step := @below_step
theorem qk5 : type_of% @below_size := @below_size
theorem ql5 : type_of% @blk_far := @blk_far
def spec_l01In.f (a0 : Int) (a1 : Int) (a2 : Int) : Option (Bool) := if a0 ≥ a1 then (some (decide (a0 ≤ a2))) else (some false)
set_option maxHeartbeats 8000000 in
set_option maxRecDepth 100000 in
theorem spec_l01In.calls (a0 : Int) (a1 : Int) (a2 : Int) (r : Bool) (w : World) (h : spec_l01In.f a0 a1 a2 = some r) :
    Calls Tryd.prog 58 #[.int .i64 a0, .int .i64 a1, .int .i64 a2] w fun e w' => e = .returned (.bool r) ∧ Drawn0 w w' := by
  have H : (if a0 ≥ a1 then (some (decide (a0 ≤ a2))) else (some false)) = some r := h
  clear h
  by_cases c4 : a0 ≥ a1
  · rw [if_pos c4] at H
    have c4b0 : decide (a1 ≤ a0) = true := decide_eq_true c4
    clear c4
    obtain rfl := Option.some.inj H
    go_enter Tryd.func58, Tryd.ntmps58
    go_wp2
    go_ret
    exact ⟨by first | rfl | (simp; done) | (simp [*]; done), by repeat (first | exact Drawn0.refl _ | apply Drawn0.step)⟩
  · rw [if_neg c4] at H
    have c4b0 : decide (a1 ≤ a0) = false := decide_eq_false c4
    clear c4
    obtain rfl := Option.some.inj H
    go_enter Tryd.func58, Tryd.ntmps58
    go_wp2
    go_ret
    exact ⟨by first | rfl | (simp; done) | (simp [*]; done), by repeat (first | exact Drawn0.refl _ | apply Drawn0.step)⟩

/-! ### spec_KeyChainOK: function 93 -/
def spec_KeyChainOK.f (a0_0 : ByteArray) (a0_1 : Int) : Option (Bool) := if (a0_0.size : Int) = 32 then ((spec_l01In.f a0_1 0 8).bind fun t211 => (some t211)) else (some false)
set_option maxHeartbeats 8000000 in
set_option maxRecDepth 100000 in
theorem spec_KeyChainOK.calls (a0_0 : ByteArray) (a0_1 : Int) (r : Bool) (w : World) (h : spec_KeyChainOK.f a0_0 a0_1 = some r) :
    Calls Tryd.prog 93 #[.agg #[.string a0_0, .int .i64 a0_1]] w fun e w' => e = .returned (.bool r) ∧ Below w.heap.size w w' := by
  have hu62 := Tryd.underlying62
  have HB := qh5 (Below.refl w.heap.size w)
  have H : (if (a0_0.size : Int) = 32 then ((spec_l01In.f a0_1 0 8).bind fun t211 => (some t211)) else (some false)) = some r := h
  clear h
  by_cases c2 : (a0_0.size : Int) = 32
  · rw [if_pos c2] at H
    have c2b0 : ((a0_0.size : Int) == 32) = true := beq_iff_eq.mpr c2
    have c2b1 : ((a0_0.size : Int) != 32) = false := bne_eq_false_iff_eq.mpr c2
    clear c2
    replace H := Option.bind_eq_some_iff.mp H
    obtain ⟨t211, A30, H⟩ := H
    replace H : (some t211) = some r := H
    have A3 := qh5 A30
    clear A30
    obtain rfl := Option.some.inj H
    go_enter Tryd.func93, Tryd.ntmps93
    go_wp2_with (first | ((with_reducible refine gate_dst (N := 1) rfl ?_); refine box_event ?hg (N := 1) ?hd (cs := #[.string a0_0, .int .i64 a0_1]) (t := 62) ?hr ?_; (case hd => rfl); (case hg => rfl); (case hr => first | (go_simp; done) | (go_simp; rfl)); intro gb210 hg w4 hbox hb; have n0_ := qh5 (qj5 (by repeat (first | (with_reducible first | exact HB.out | apply qd5 | apply qe5 | apply qf5) | exact HB.out)) hb); have n1_ := qh5 (hbox); have n2_ := qh5 ((by rw [hg]; exact (qk5 (by repeat (first | (with_reducible first | exact HB.out | apply qd5 | apply qe5 | apply qf5) | exact HB.out))) : w.heap.size ≤ gb210)); have n3_ := qh5 ((by rw [hg]; exact (qk5 (by repeat (first | (with_reducible first | exact HB.out | apply qd5 | apply qe5 | apply qf5) | exact HB.out))) : w.heap.size ≤ gb210)); clear HB; have HB := n0_; have BK210 := n1_; have GW210 := n2_; have GE210 := n3_; clear n0_ n1_ n2_ n3_; clear hb hbox hg; have hcz5_0 : w4.cell? ⟨gb210, 0, none⟩ = some (.string a0_0) := (blk_cell BK210.out 0).trans rfl; have hcz5_1 : w4.cell? ⟨gb210, 1, none⟩ = some (.int .i64 a0_1) := (blk_cell BK210.out 1).trans rfl; have hfz5_0 := blk_frozen BK210.out 0; have hfz5_1 := blk_frozen BK210.out 1) | (go_at_call 58; (with_reducible refine (spec_l01In.calls a0_1 0 8 t211 _ A3.out).mono ?_); rintro e w' ⟨rfl, ⟨nd, rfl⟩⟩))
    go_ret
    exact ⟨by first | rfl | (simp [errW_none, errW_some] <;> rfl) | (simp [*, errW_none, errW_some] <;> rfl), by repeat (first | (with_reducible first | exact HB.out | apply qd5 | apply qe5 | apply qf5 | refine qg5 ?_ GE210.out) | exact HB.out)⟩
  · rw [if_neg c2] at H
    have c2b0 : ((a0_0.size : Int) == 32) = false := beq_eq_false_iff_ne.mpr c2
    have c2b1 : ((a0_0.size : Int) != 32) = true := bne_iff_ne.mpr c2
    obtain rfl := Option.some.inj H
    go_enter Tryd.func93, Tryd.ntmps93
    go_wp2_with (first | ((with_reducible refine gate_dst (N := 1) rfl ?_); refine box_event ?hg (N := 1) ?hd (cs := #[.string a0_0, .int .i64 a0_1]) (t := 62) ?hr ?_; (case hd => rfl); (case hg => rfl); (case hr => first | (go_simp; done) | (go_simp; rfl)); intro gb210 hg w6 hbox hb; have n0_ := qh5 (qj5 (by repeat (first | (with_reducible first | exact HB.out | apply qd5 | apply qe5 | apply qf5) | exact HB.out)) hb); have n1_ := qh5 (hbox); have n2_ := qh5 ((by rw [hg]; exact (qk5 (by repeat (first | (with_reducible first | exact HB.out | apply qd5 | apply qe5 | apply qf5) | exact HB.out))) : w.heap.size ≤ gb210)); have n3_ := qh5 ((by rw [hg]; exact (qk5 (by repeat (first | (with_reducible first | exact HB.out | apply qd5 | apply qe5 | apply qf5) | exact HB.out))) : w.heap.size ≤ gb210)); clear HB; have HB := n0_; have BK210 := n1_; have GW210 := n2_; have GE210 := n3_; clear n0_ n1_ n2_ n3_; clear hb hbox hg; have hcz7_0 : w6.cell? ⟨gb210, 0, none⟩ = some (.string a0_0) := (blk_cell BK210.out 0).trans rfl; have hcz7_1 : w6.cell? ⟨gb210, 1, none⟩ = some (.int .i64 a0_1) := (blk_cell BK210.out 1).trans rfl; have hfz7_0 := blk_frozen BK210.out 0; have hfz7_1 := blk_frozen BK210.out 1))
    go_ret
    exact ⟨by first | rfl | (simp [errW_none, errW_some] <;> rfl) | (simp [*, errW_none, errW_some] <;> rfl), by repeat (first | (with_reducible first | exact HB.out | apply qd5 | apply qe5 | apply qf5 | refine qg5 ?_ GE210.out) | exact HB.out)⟩

/-! ### spec_SignNext: function 48 -/
def spec_SignNext.f (k : Nat) (a0_0 : ByteArray) (a0_1 : Int) (a1 : ByteArray) : Option (ByteArray × Int × Int × List ByteArray × List ByteArray × List ByteArray × Int) := if (a1.size : Int) > 65530 then (some ((⟨#[]⟩ : ByteArray), 0, 0, ([] : List ByteArray), ([] : List ByteArray), ([] : List ByteArray), 2)) else ((spec_KeyChainOK.f a0_0 a0_1).bind fun t215 => (if t215 = true then (if a0_1 = 8 then (some (a0_0, a0_1, 0, ([] : List ByteArray), ([] : List ByteArray), ([] : List ByteArray), 13)) else ((spec_l03Sign.f k a0_0 a0_1 a1).bind fun bt216 => (some (a0_0, wrap64 (a0_1 + 1), bt216.1, bt216.2.1, bt216.2.2.1, bt216.2.2.2, 0)))) else (some ((⟨#[]⟩ : ByteArray), 0, 0, ([] : List ByteArray), ([] : List ByteArray), ([] : List ByteArray), 1))))
theorem spec_SignNext.mono : ∀ a0 a1 a2 k, LeO (spec_SignNext.f k a0 a1 a2) (spec_SignNext.f (k + 1) a0 a1 a2) := by
  intro a0 a1 a2 k
  unfold spec_SignNext.f
  repeat' first
      | (with_reducible exact spec_l03Sign.mono _ _ _ _)
      | (with_reducible exact LeO.refl _)
      | (with_reducible exact LeO.none _)
      | (with_reducible refine LeO.ite ?_ ?_)
      | (with_reducible refine LeO.bind ?_ (fun _ => ?_))
      | exact spec_l03Sign.mono _ _ _ _
      | exact LeO.none _
      | refine LeO.ite ?_ ?_
      | refine LeO.bind ?_ (fun _ => ?_)
set_option maxHeartbeats 8000000 in
set_option maxRecDepth 100000 in
theorem spec_SignNext.calls (k : Nat) (a0_0 : ByteArray) (a0_1 : Int) (a1 : ByteArray) (r1 : ByteArray) (r2 : Int) (r3 : Int) (r4 : List ByteArray) (r5 : List ByteArray) (r6 : List ByteArray) (r7 : Int) (w : World) (h : spec_SignNext.f k a0_0 a0_1 a1 = some (r1, r2, r3, r4, r5, r6, r7)) :
    Calls Tryd.prog 48 #[.agg #[.string a0_0, .int .i64 a0_1], .string a1] w fun e w' => ∃ v3_ v4_ v5_ : Value, e = .returned (.tuple #[.agg #[.string r1, .int .i64 r2], .agg #[.int .i64 r3, v3_, v4_, v5_], .int .i64 r7]) ∧ Kd.R Kd.string 9 w' w.heap.size (fun k_ => some k_ ≠ (v4_ : Value).ownBlock ∧ some k_ ≠ (v5_ : Value).ownBlock) v3_ r4 ∧ Kd.R Kd.string 9 w' w.heap.size (fun k_ => some k_ ≠ (v3_ : Value).ownBlock ∧ some k_ ≠ (v5_ : Value).ownBlock) v4_ r5 ∧ Kd.R Kd.string 9 w' w.heap.size (fun k_ => some k_ ≠ (v3_ : Value).ownBlock ∧ some k_ ≠ (v4_ : Value).ownBlock) v5_ r6 ∧ Below w.heap.size w w' := by
  have hu62 := Tryd.underlying62
  have hu51 := Tryd.underlying51
  have HB := qh5 (Below.refl w.heap.size w)
  have H : (if (a1.size : Int) > 65530 then (some ((⟨#[]⟩ : ByteArray), 0, 0, ([] : List ByteArray), ([] : List ByteArray), ([] : List ByteArray), 2)) else ((spec_KeyChainOK.f a0_0 a0_1).bind fun t215 => (if t215 = true then (if a0_1 = 8 then (some (a0_0, a0_1, 0, ([] : List ByteArray), ([] : List ByteArray), ([] : List ByteArray), 13)) else ((spec_l03Sign.f k a0_0 a0_1 a1).bind fun bt216 => (some (a0_0, wrap64 (a0_1 + 1), bt216.1, bt216.2.1, bt216.2.2.1, bt216.2.2.2, 0)))) else (some ((⟨#[]⟩ : ByteArray), 0, 0, ([] : List ByteArray), ([] : List ByteArray), ([] : List ByteArray), 1))))) = some (r1, r2, r3, r4, r5, r6, r7) := h
  clear h
  by_cases c3 : (a1.size : Int) > 65530
  · rw [if_pos c3] at H
    have c3b0 : decide (65530 < (a1.size : Int)) = true := decide_eq_true c3
    have c3b1 : decide (65530 < a1.size) = true := decide_eq_true (by omega)
    clear c3
    simp only [Option.some.injEq, Prod.mk.injEq] at H
    obtain ⟨rfl, rfl, rfl, rfl, rfl, rfl, rfl⟩ := H
    go_enter Tryd.func48, Tryd.ntmps48
    go_wp2_with (first | ((with_reducible refine gate_dst (N := 2) rfl ?_); refine box_event ?hg (N := 2) ?hd (cs := #[.string a0_0, .int .i64 a0_1]) (t := 62) ?hr ?_; (case hd => rfl); (case hg => rfl); (case hr => first | (go_simp; done) | (go_simp; rfl)); intro gb212 hg w4 hbox hb; have n0_ := qh5 (qj5 (by repeat (first | (with_reducible first | exact HB.out | apply qd5 | apply qe5 | apply qf5) | exact HB.out)) hb); have n1_ := qh5 (hbox); have n2_ := qh5 ((by rw [hg]; exact (qk5 (by repeat (first | (with_reducible first | exact HB.out | apply qd5 | apply qe5 | apply qf5) | exact HB.out))) : w.heap.size ≤ gb212)); have n3_ := qh5 ((by rw [hg]; exact (qk5 (by repeat (first | (with_reducible first | exact HB.out | apply qd5 | apply qe5 | apply qf5) | exact HB.out))) : w.heap.size ≤ gb212)); clear HB; have HB := n0_; have BK212 := n1_; have GW212 := n2_; have GE212 := n3_; clear n0_ n1_ n2_ n3_; clear hb hbox hg) | ((with_reducible refine gate_dst (N := 4) rfl ?_); refine box_event ?hg (N := 4) ?hd (cs := #[.string (⟨#[]⟩ : ByteArray), .int .i64 0]) (t := 62) ?hr ?_; (case hd => rfl); (case hg => rfl); (case hr => first | (go_simp; done) | (go_simp; rfl)); intro gb213 hg w5 hbox hb; have n0_ := qh5 (qi5 (g := gb212) (o := .cells #[.string a0_0, .int .i64 a0_1] 62 (0, 0)) (by (with_reducible repeat (first | apply qa5 | apply qb5 | apply qc5)); exact BK212.out) hb); have n1_ := qh5 (qj5 (by repeat (first | (with_reducible first | exact HB.out | apply qd5 | apply qe5 | apply qf5 | refine qg5 ?_ GE212.out) | exact HB.out)) hb); have n2_ := qh5 (hbox); have n3_ := qh5 ((by rw [hg]; exact (qk5 (by repeat (first | (with_reducible first | exact HB.out | apply qd5 | apply qe5 | apply qf5 | refine qg5 ?_ GE212.out) | exact HB.out))) : w.heap.size ≤ gb213)); have n4_ := qh5 ((by rw [hg]; exact (qk5 (by repeat (first | (with_reducible first | exact HB.out | apply qd5 | apply qe5 | apply qf5 | refine qg5 ?_ GE212.out) | exact HB.out))) : w.heap.size ≤ gb213)); have n5_ := qh5 ((by rw [hg]; exact Nat.ne_of_lt (blk_lt (g := gb212) (o := .cells #[.string a0_0, .int .i64 a0_1] 62 (0, 0)) (by (with_reducible repeat (first | apply qa5 | apply qb5 | apply qc5)); exact BK212.out)) : gb212 ≠ gb213)); have n6_ := qh5 ((by rw [hg]; exact Nat.ne_of_gt (blk_lt (g := gb212) (o := .cells #[.string a0_0, .int .i64 a0_1] 62 (0, 0)) (by (with_reducible repeat (first | apply qa5 | apply qb5 | apply qc5)); exact BK212.out)) : gb213 ≠ gb212)); clear BK212; clear HB; have BK212 := n0_; have HB := n1_; have BK213 := n2_; have GW213 := n3_; have GE213 := n4_; have NB212_213 := n5_; have NB213_212 := n6_; clear n0_ n1_ n2_ n3_ n4_ n5_ n6_; clear hb hbox hg) | ((with_reducible refine gate_dst (N := 5) rfl ?_); refine box_event ?hg (N := 5) ?hd (cs := #[.int .i64 0, .slice none 0 0, .slice none 0 0, .slice none 0 0]) (t := 51) ?hr ?_; (case hd => rfl); (case hg => rfl); (case hr => first | (go_simp; done) | (go_simp; rfl)); intro gb214 hg w6 hbox hb; have n0_ := qh5 (qi5 (g := gb212) (o := .cells #[.string a0_0, .int .i64 a0_1] 62 (0, 0)) (by (with_reducible repeat (first | apply qa5 | apply qb5 | apply qc5)); exact BK212.out) hb); have n1_ := qh5 (qi5 (g := gb213) (o := .cells #[.string (⟨#[]⟩ : ByteArray), .int .i64 0] 62 (0, 0)) (by (with_reducible repeat (first | apply qa5 | apply qb5 | apply qc5)); exact BK213.out) hb); have n2_ := qh5 (qj5 (by repeat (first | (with_reducible first | exact HB.out | apply qd5 | apply qe5 | apply qf5 | refine qg5 ?_ GE212.out | refine qg5 ?_ GE213.out) | exact HB.out)) hb); have n3_ := qh5 (hbox); have n4_ := qh5 ((by rw [hg]; exact (qk5 (by repeat (first | (with_reducible first | exact HB.out | apply qd5 | apply qe5 | apply qf5 | refine qg5 ?_ GE212.out | refine qg5 ?_ GE213.out) | exact HB.out))) : w.heap.size ≤ gb214)); have n5_ := qh5 ((by rw [hg]; exact (qk5 (by repeat (first | (with_reducible first | exact HB.out | apply qd5 | apply qe5 | apply qf5 | refine qg5 ?_ GE212.out | refine qg5 ?_ GE213.out) | exact HB.out))) : w.heap.size ≤ gb214)); have n6_ := qh5 ((by rw [hg]; exact Nat.ne_of_lt (blk_lt (g := gb212) (o := .cells #[.string a0_0, .int .i64 a0_1] 62 (0, 0)) (by (with_reducible repeat (first | apply qa5 | apply qb5 | apply qc5)); exact BK212.out)) : gb212 ≠ gb214)); have n7_ := qh5 ((by rw [hg]; exact Nat.ne_of_gt (blk_lt (g := gb212) (o := .cells #[.string a0_0, .int .i64 a0_1] 62 (0, 0)) (by (with_reducible repeat (first | apply qa5 | apply qb5 | apply qc5)); exact BK212.out)) : gb214 ≠ gb212)); have n8_ := qh5 ((by rw [hg]; exact Nat.ne_of_lt (blk_lt (g := gb213) (o := .cells #[.string (⟨#[]⟩ : ByteArray), .int .i64 0] 62 (0, 0)) (by (with_reducible repeat (first | apply qa5 | apply qb5 | apply qc5)); exact BK213.out)) : gb213 ≠ gb214)); have n9_ := qh5 ((by rw [hg]; exact Nat.ne_of_gt (blk_lt (g := gb213) (o := .cells #[.string (⟨#[]⟩ : ByteArray), .int .i64 0] 62 (0, 0)) (by (with_reducible repeat (first | apply qa5 | apply qb5 | apply qc5)); exact BK213.out)) : gb214 ≠ gb213)); clear BK212; clear BK213; clear HB; have BK212 := n0_; have BK213 := n1_; have HB := n2_; have BK214 := n3_; have GW214 := n4_; have GE214 := n5_; have NB212_214 := n6_; have NB214_212 := n7_; have NB213_214 := n8_; have NB214_213 := n9_; clear n0_ n1_ n2_ n3_ n4_ n5_ n6_ n7_ n8_ n9_; clear hb hbox hg; have hnb7 := NB213_212.out; have hnc7 := NB212_213.out; have hnb8 := NB213_214.out; have hnc8 := NB214_213.out; have hcz9_0 : w6.cell? ⟨gb213, 0, none⟩ = some (.string (⟨#[]⟩ : ByteArray)) := (blk_cell BK213.out 0).trans rfl; have hcz9_1 : w6.cell? ⟨gb213, 1, none⟩ = some (.int .i64 0) := (blk_cell BK213.out 1).trans rfl; have hfz9_0 := blk_frozen BK213.out 0; have hfz9_1 := blk_frozen BK213.out 1; have hnb10 := NB214_212.out; have hnc10 := NB212_214.out; have hcz11_0 : w6.cell? ⟨gb214, 0, none⟩ = some (.int .i64 0) := (blk_cell BK214.out 0).trans rfl; have hcz11_1 : w6.cell? ⟨gb214, 1, none⟩ = some (.slice none 0 0) := (blk_cell BK214.out 1).trans rfl; have hcz11_2 : w6.cell? ⟨gb214, 2, none⟩ = some (.slice none 0 0) := (blk_cell BK214.out 2).trans rfl; have hcz11_3 : w6.cell? ⟨gb214, 3, none⟩ = some (.slice none 0 0) := (blk_cell BK214.out 3).trans rfl; have hfz11_0 := blk_frozen BK214.out 0; have hfz11_1 := blk_frozen BK214.out 1; have hfz11_2 := blk_frozen BK214.out 2; have hfz11_3 := blk_frozen BK214.out 3))
    refine bodyPost_ret (results_list (rs := [.cell 4 62, .cell 5 51, .tmp 6]) rfl (by simp) (.cell gb213 62 #[.string (⟨#[]⟩ : ByteArray), .int .i64 0] (0, 0) _ rfl (by (with_reducible repeat (first | apply qa5 | apply qb5 | apply qc5)); refine ql5 ?_ NB213_214.out _; (with_reducible repeat (first | apply qa5 | apply qb5 | apply qc5)); refine ql5 ?_ NB213_214.out _; (with_reducible repeat (first | apply qa5 | apply qb5 | apply qc5)); refine ql5 ?_ NB213_214.out _; (with_reducible repeat (first | apply qa5 | apply qb5 | apply qc5)); refine ql5 ?_ NB213_214.out _; (with_reducible repeat (first | apply qa5 | apply qb5 | apply qc5)); refine blk_put (cs := #[.string (⟨#[]⟩ : ByteArray), .int .i64 0]) ?_ 1 _ rfl; (with_reducible repeat (first | apply qa5 | apply qb5 | apply qc5)); refine blk_put (cs := #[.string (⟨#[]⟩ : ByteArray), .int .i64 0]) ?_ 0 _ rfl; (with_reducible repeat (first | apply qa5 | apply qb5 | apply qc5)); exact BK213.out) Tryd.underlying62 rfl (by kernel_rfl) (.cell gb214 51 #[.int .i64 0, .slice none 0 0, .slice none 0 0, .slice none 0 0] (0, 0) _ rfl (by (with_reducible repeat (first | apply qa5 | apply qb5 | apply qc5)); refine blk_put (cs := #[.int .i64 0, .slice none 0 0, .slice none 0 0, .slice none 0 0]) ?_ 3 _ rfl; (with_reducible repeat (first | apply qa5 | apply qb5 | apply qc5)); refine blk_put (cs := #[.int .i64 0, .slice none 0 0, .slice none 0 0, .slice none 0 0]) ?_ 2 _ rfl; (with_reducible repeat (first | apply qa5 | apply qb5 | apply qc5)); refine blk_put (cs := #[.int .i64 0, .slice none 0 0, .slice none 0 0, .slice none 0 0]) ?_ 1 _ rfl; (with_reducible repeat (first | apply qa5 | apply qb5 | apply qc5)); refine blk_put (cs := #[.int .i64 0, .slice none 0 0, .slice none 0 0, .slice none 0 0]) ?_ 0 _ rfl; (with_reducible repeat (first | apply qa5 | apply qb5 | apply qc5)); refine ql5 ?_ NB214_213.out _; (with_reducible repeat (first | apply qa5 | apply qb5 | apply qc5)); refine ql5 ?_ NB214_213.out _; (with_reducible repeat (first | apply qa5 | apply qb5 | apply qc5)); exact BK214.out) Tryd.underlying51 rfl (by kernel_rfl) (.tmp .nil)))) rfl ?_
    exact ⟨_, _, _, by first | rfl | (simp [errW_none, errW_some] <;> rfl) | (simp [*, errW_none, errW_some] <;> rfl), by first | exact Kd.R_nil _ _ _ _ _ | exact Kd.N_nil _ _ _ _ _ | exact Kd.V_nil _ _ _ _ _ | exact Kd.Q_nil _ _ _ _ _ | exact Kd.S_nil _ _ _ _ _, by first | exact Kd.R_nil _ _ _ _ _ | exact Kd.N_nil _ _ _ _ _ | exact Kd.V_nil _ _ _ _ _ | exact Kd.Q_nil _ _ _ _ _ | exact Kd.S_nil _ _ _ _ _, by first | exact Kd.R_nil _ _ _ _ _ | exact Kd.N_nil _ _ _ _ _ | exact Kd.V_nil _ _ _ _ _ | exact Kd.Q_nil _ _ _ _ _ | exact Kd.S_nil _ _ _ _ _, by repeat (first | (with_reducible first | exact HB.out | apply qd5 | apply qe5 | apply qf5 | refine qg5 ?_ GE212.out | refine qg5 ?_ GE213.out | refine qg5 ?_ GE214.out) | exact HB.out)⟩
  · rw [if_neg c3] at H
    have c3b0 : decide (65530 < (a1.size : Int)) = false := decide_eq_false c3
    have c3b1 : decide (65530 < a1.size) = false := decide_eq_false (by omega)
    clear c3
    replace H := Option.bind_eq_some_iff.mp H
    obtain ⟨t215, A120, H⟩ := H
    replace H : (if t215 = true then (if a0_1 = 8 then (some (a0_0, a0_1, 0, ([] : List ByteArray), ([] : List ByteArray), ([] : List ByteArray), 13)) else ((spec_l03Sign.f k a0_0 a0_1 a1).bind fun bt216 => (some (a0_0, wrap64 (a0_1 + 1), bt216.1, bt216.2.1, bt216.2.2.1, bt216.2.2.2, 0)))) else (some ((⟨#[]⟩ : ByteArray), 0, 0, ([] : List ByteArray), ([] : List ByteArray), ([] : List ByteArray), 1))) = some (r1, r2, r3, r4, r5, r6, r7) := H
    have A12 := qh5 A120
    clear A120
    by_cases c13 : t215 = true
    · subst c13
      have H1 : (if a0_1 = 8 then (some (a0_0, a0_1, 0, ([] : List ByteArray), ([] : List ByteArray), ([] : List ByteArray), 13)) else ((spec_l03Sign.f k a0_0 a0_1 a1).bind fun bt216 => (some (a0_0, wrap64 (a0_1 + 1), bt216.1, bt216.2.1, bt216.2.2.1, bt216.2.2.2, 0)))) = some (r1, r2, r3, r4, r5, r6, r7) := by rw [if_pos rfl] at H; exact H
      clear H
      have H := H1
      clear H1
      by_cases c14 : a0_1 = 8
      · rw [if_pos c14] at H
        have c14b0 : (a0_1 == 8) = true := beq_iff_eq.mpr c14
        have c14b1 : (a0_1 != 8) = false := bne_eq_false_iff_eq.mpr c14
        clear c14
        simp only [Option.some.injEq, Prod.mk.injEq] at H
        obtain ⟨rfl, rfl, rfl, rfl, rfl, rfl, rfl⟩ := H
        go_enter Tryd.func48, Tryd.ntmps48
        go_wp2_with (first | ((with_reducible refine gate_dst (N := 2) rfl ?_); refine box_event ?hg (N := 2) ?hd (cs := #[.string a0_0, .int .i64 a0_1]) (t := 62) ?hr ?_; (case hd => rfl); (case hg => rfl); (case hr => first | (go_simp; done) | (go_simp; rfl)); intro gb212 hg w15 hbox hb; have n0_ := qh5 (qj5 (by repeat (first | (with_reducible first | exact HB.out | apply qd5 | apply qe5 | apply qf5) | exact HB.out)) hb); have n1_ := qh5 (hbox); have n2_ := qh5 ((by rw [hg]; exact (qk5 (by repeat (first | (with_reducible first | exact HB.out | apply qd5 | apply qe5 | apply qf5) | exact HB.out))) : w.heap.size ≤ gb212)); have n3_ := qh5 ((by rw [hg]; exact (qk5 (by repeat (first | (with_reducible first | exact HB.out | apply qd5 | apply qe5 | apply qf5) | exact HB.out))) : w.heap.size ≤ gb212)); clear HB; have HB := n0_; have BK212 := n1_; have GW212 := n2_; have GE212 := n3_; clear n0_ n1_ n2_ n3_; clear hb hbox hg) | ((with_reducible refine gate_dst (N := 4) rfl ?_); refine box_event ?hg (N := 4) ?hd (cs := #[.string (⟨#[]⟩ : ByteArray), .int .i64 0]) (t := 62) ?hr ?_; (case hd => rfl); (case hg => rfl); (case hr => first | (go_simp; done) | (go_simp; rfl)); intro gb213 hg w16 hbox hb; have n0_ := qh5 (qi5 (g := gb212) (o := .cells #[.string a0_0, .int .i64 a0_1] 62 (0, 0)) (by (with_reducible repeat (first | apply qa5 | apply qb5 | apply qc5)); exact BK212.out) hb); have n1_ := qh5 (qj5 (by repeat (first | (with_reducible first | exact HB.out | apply qd5 | apply qe5 | apply qf5 | refine qg5 ?_ GE212.out) | exact HB.out)) hb); have n2_ := qh5 (hbox); have n3_ := qh5 ((by rw [hg]; exact (qk5 (by repeat (first | (with_reducible first | exact HB.out | apply qd5 | apply qe5 | apply qf5 | refine qg5 ?_ GE212.out) | exact HB.out))) : w.heap.size ≤ gb213)); have n4_ := qh5 ((by rw [hg]; exact (qk5 (by repeat (first | (with_reducible first | exact HB.out | apply qd5 | apply qe5 | apply qf5 | refine qg5 ?_ GE212.out) | exact HB.out))) : w.heap.size ≤ gb213)); have n5_ := qh5 ((by rw [hg]; exact Nat.ne_of_lt (blk_lt (g := gb212) (o := .cells #[.string a0_0, .int .i64 a0_1] 62 (0, 0)) (by (with_reducible repeat (first | apply qa5 | apply qb5 | apply qc5)); exact BK212.out)) : gb212 ≠ gb213)); have n6_ := qh5 ((by rw [hg]; exact Nat.ne_of_gt (blk_lt (g := gb212) (o := .cells #[.string a0_0, .int .i64 a0_1] 62 (0, 0)) (by (with_reducible repeat (first | apply qa5 | apply qb5 | apply qc5)); exact BK212.out)) : gb213 ≠ gb212)); clear BK212; clear HB; have BK212 := n0_; have HB := n1_; have BK213 := n2_; have GW213 := n3_; have GE213 := n4_; have NB212_213 := n5_; have NB213_212 := n6_; clear n0_ n1_ n2_ n3_ n4_ n5_ n6_; clear hb hbox hg) | ((with_reducible refine gate_dst (N := 5) rfl ?_); refine box_event ?hg (N := 5) ?hd (cs := #[.int .i64 0, .slice none 0 0, .slice none 0 0, .slice none 0 0]) (t := 51) ?hr ?_; (case hd => rfl); (case hg => rfl); (case hr => first | (go_simp; done) | (go_simp; rfl)); intro gb214 hg w17 hbox hb; have n0_ := qh5 (qi5 (g := gb212) (o := .cells #[.string a0_0, .int .i64 a0_1] 62 (0, 0)) (by (with_reducible repeat (first | apply qa5 | apply qb5 | apply qc5)); exact BK212.out) hb); have n1_ := qh5 (qi5 (g := gb213) (o := .cells #[.string (⟨#[]⟩ : ByteArray), .int .i64 0] 62 (0, 0)) (by (with_reducible repeat (first | apply qa5 | apply qb5 | apply qc5)); exact BK213.out) hb); have n2_ := qh5 (qj5 (by repeat (first | (with_reducible first | exact HB.out | apply qd5 | apply qe5 | apply qf5 | refine qg5 ?_ GE212.out | refine qg5 ?_ GE213.out) | exact HB.out)) hb); have n3_ := qh5 (hbox); have n4_ := qh5 ((by rw [hg]; exact (qk5 (by repeat (first | (with_reducible first | exact HB.out | apply qd5 | apply qe5 | apply qf5 | refine qg5 ?_ GE212.out | refine qg5 ?_ GE213.out) | exact HB.out))) : w.heap.size ≤ gb214)); have n5_ := qh5 ((by rw [hg]; exact (qk5 (by repeat (first | (with_reducible first | exact HB.out | apply qd5 | apply qe5 | apply qf5 | refine qg5 ?_ GE212.out | refine qg5 ?_ GE213.out) | exact HB.out))) : w.heap.size ≤ gb214)); have n6_ := qh5 ((by rw [hg]; exact Nat.ne_of_lt (blk_lt (g := gb212) (o := .cells #[.string a0_0, .int .i64 a0_1] 62 (0, 0)) (by (with_reducible repeat (first | apply qa5 | apply qb5 | apply qc5)); exact BK212.out)) : gb212 ≠ gb214)); have n7_ := qh5 ((by rw [hg]; exact Nat.ne_of_gt (blk_lt (g := gb212) (o := .cells #[.string a0_0, .int .i64 a0_1] 62 (0, 0)) (by (with_reducible repeat (first | apply qa5 | apply qb5 | apply qc5)); exact BK212.out)) : gb214 ≠ gb212)); have n8_ := qh5 ((by rw [hg]; exact Nat.ne_of_lt (blk_lt (g := gb213) (o := .cells #[.string (⟨#[]⟩ : ByteArray), .int .i64 0] 62 (0, 0)) (by (with_reducible repeat (first | apply qa5 | apply qb5 | apply qc5)); exact BK213.out)) : gb213 ≠ gb214)); have n9_ := qh5 ((by rw [hg]; exact Nat.ne_of_gt (blk_lt (g := gb213) (o := .cells #[.string (⟨#[]⟩ : ByteArray), .int .i64 0] 62 (0, 0)) (by (with_reducible repeat (first | apply qa5 | apply qb5 | apply qc5)); exact BK213.out)) : gb214 ≠ gb213)); clear BK212; clear BK213; clear HB; have BK212 := n0_; have BK213 := n1_; have HB := n2_; have BK214 := n3_; have GW214 := n4_; have GE214 := n5_; have NB212_214 := n6_; have NB214_212 := n7_; have NB213_214 := n8_; have NB214_213 := n9_; clear n0_ n1_ n2_ n3_ n4_ n5_ n6_ n7_ n8_ n9_; clear hb hbox hg; have hnb18 := NB212_213.out; have hnc18 := NB213_212.out; have hnb19 := NB212_214.out; have hnc19 := NB214_212.out; have hcz20_0 : w17.cell? ⟨gb212, 0, none⟩ = some (.string a0_0) := (blk_cell BK212.out 0).trans rfl; have hcz20_1 : w17.cell? ⟨gb212, 1, none⟩ = some (.int .i64 a0_1) := (blk_cell BK212.out 1).trans rfl; have hfz20_0 := blk_frozen BK212.out 0; have hfz20_1 := blk_frozen BK212.out 1) | ((with_reducible refine gate_callee (f := 93) rfl ?_); refine goesL_ (some 14) rfl rfl Tryd.func93 (by kernel_rfl) rfl #[.agg #[.string a0_0, .int .i64 a0_1]] rfl (by (try simp only [List.map_toArray, List.map_cons, List.map_nil]); first | done | rfl | (simp only [List.length_drop, List.length_take]; rfl)) ?_; (with_reducible refine (spec_KeyChainOK.calls a0_0 a0_1 true _ A12.out).mono ?_); rintro e w21 ⟨rfl, hb⟩; refine ⟨_, rfl, ?_⟩; have n0_ := qh5 (qi5 (g := gb212) (o := .cells #[.string a0_0, .int .i64 a0_1] 62 (0, 0)) (by (with_reducible repeat (first | apply qa5 | apply qb5 | apply qc5)); exact BK212.out) hb); have n1_ := qh5 (qi5 (g := gb213) (o := .cells #[.string (⟨#[]⟩ : ByteArray), .int .i64 0] 62 (0, 0)) (by (with_reducible repeat (first | apply qa5 | apply qb5 | apply qc5)); exact BK213.out) hb); have n2_ := qh5 (qi5 (g := gb214) (o := .cells #[.int .i64 0, .slice none 0 0, .slice none 0 0, .slice none 0 0] 51 (0, 0)) (by (with_reducible repeat (first | apply qa5 | apply qb5 | apply qc5)); exact BK214.out) hb); have n3_ := qh5 (qj5 (by repeat (first | (with_reducible first | exact HB.out | apply qd5 | apply qe5 | apply qf5 | refine qg5 ?_ GE212.out | refine qg5 ?_ GE213.out | refine qg5 ?_ GE214.out) | exact HB.out)) hb); clear BK212; clear BK213; clear BK214; clear HB; have BK212 := n0_; have BK213 := n1_; have BK214 := n2_; have HB := n3_; clear n0_ n1_ n2_ n3_; (try clear hb); (try clear hb2); (try clear hk); (try clear hi); have hcz22_0 : w21.cell? ⟨gb212, 0, none⟩ = some (.string a0_0) := (blk_cell BK212.out 0).trans rfl; have hcz22_1 : w21.cell? ⟨gb212, 1, none⟩ = some (.int .i64 a0_1) := (blk_cell BK212.out 1).trans rfl; have hfz22_0 := blk_frozen BK212.out 0; have hfz22_1 := blk_frozen BK212.out 1; have hnb23 := NB213_214.out; have hnc23 := NB214_213.out; have hcz24_0 : w21.cell? ⟨gb213, 0, none⟩ = some (.string (⟨#[]⟩ : ByteArray)) := (blk_cell BK213.out 0).trans rfl; have hcz24_1 : w21.cell? ⟨gb213, 1, none⟩ = some (.int .i64 0) := (blk_cell BK213.out 1).trans rfl; have hfz24_0 := blk_frozen BK213.out 0; have hfz24_1 := blk_frozen BK213.out 1; have hcz25_0 : w21.cell? ⟨gb214, 0, none⟩ = some (.int .i64 0) := (blk_cell BK214.out 0).trans rfl; have hcz25_1 : w21.cell? ⟨gb214, 1, none⟩ = some (.slice none 0 0) := (blk_cell BK214.out 1).trans rfl; have hcz25_2 : w21.cell? ⟨gb214, 2, none⟩ = some (.slice none 0 0) := (blk_cell BK214.out 2).trans rfl; have hcz25_3 : w21.cell? ⟨gb214, 3, none⟩ = some (.slice none 0 0) := (blk_cell BK214.out 3).trans rfl; have hfz25_0 := blk_frozen BK214.out 0; have hfz25_1 := blk_frozen BK214.out 1; have hfz25_2 := blk_frozen BK214.out 2; have hfz25_3 := blk_frozen BK214.out 3))
        refine bodyPost_ret (results_list (rs := [.cell 4 62, .cell 5 51, .tmp 6]) rfl (by simp) (.cell gb213 62 #[.string a0_0, .int .i64 a0_1] (0, 0) _ rfl (by (with_reducible repeat (first | apply qa5 | apply qb5 | apply qc5)); refine ql5 ?_ NB213_214.out _; (with_reducible repeat (first | apply qa5 | apply qb5 | apply qc5)); refine ql5 ?_ NB213_214.out _; (with_reducible repeat (first | apply qa5 | apply qb5 | apply qc5)); refine ql5 ?_ NB213_214.out _; (with_reducible repeat (first | apply qa5 | apply qb5 | apply qc5)); refine ql5 ?_ NB213_214.out _; (with_reducible repeat (first | apply qa5 | apply qb5 | apply qc5)); refine blk_put (cs := #[.string a0_0, .int .i64 0]) ?_ 1 _ rfl; (with_reducible repeat (first | apply qa5 | apply qb5 | apply qc5)); refine blk_put (cs := #[.string (⟨#[]⟩ : ByteArray), .int .i64 0]) ?_ 0 _ rfl; (with_reducible repeat (first | apply qa5 | apply qb5 | apply qc5)); exact BK213.out) Tryd.underlying62 rfl (by kernel_rfl) (.cell gb214 51 #[.int .i64 0, .slice none 0 0, .slice none 0 0, .slice none 0 0] (0, 0) _ rfl (by (with_reducible repeat (first | apply qa5 | apply qb5 | apply qc5)); refine blk_put (cs := #[.int .i64 0, .slice none 0 0, .slice none 0 0, .slice none 0 0]) ?_ 3 _ rfl; (with_reducible repeat (first | apply qa5 | apply qb5 | apply qc5)); refine blk_put (cs := #[.int .i64 0, .slice none 0 0, .slice none 0 0, .slice none 0 0]) ?_ 2 _ rfl; (with_reducible repeat (first | apply qa5 | apply qb5 | apply qc5)); refine blk_put (cs := #[.int .i64 0, .slice none 0 0, .slice none 0 0, .slice none 0 0]) ?_ 1 _ rfl; (with_reducible repeat (first | apply qa5 | apply qb5 | apply qc5)); refine blk_put (cs := #[.int .i64 0, .slice none 0 0, .slice none 0 0, .slice none 0 0]) ?_ 0 _ rfl; (with_reducible repeat (first | apply qa5 | apply qb5 | apply qc5)); refine ql5 ?_ NB214_213.out _; (with_reducible repeat (first | apply qa5 | apply qb5 | apply qc5)); refine ql5 ?_ NB214_213.out _; (with_reducible repeat (first | apply qa5 | apply qb5 | apply qc5)); exact BK214.out) Tryd.underlying51 rfl (by kernel_rfl) (.tmp .nil)))) rfl ?_
        exact ⟨_, _, _, by first | rfl | (simp [errW_none, errW_some] <;> rfl) | (simp [*, errW_none, errW_some] <;> rfl), by first | exact Kd.R_nil _ _ _ _ _ | exact Kd.N_nil _ _ _ _ _ | exact Kd.V_nil _ _ _ _ _ | exact Kd.Q_nil _ _ _ _ _ | exact Kd.S_nil _ _ _ _ _, by first | exact Kd.R_nil _ _ _ _ _ | exact Kd.N_nil _ _ _ _ _ | exact Kd.V_nil _ _ _ _ _ | exact Kd.Q_nil _ _ _ _ _ | exact Kd.S_nil _ _ _ _ _, by first | exact Kd.R_nil _ _ _ _ _ | exact Kd.N_nil _ _ _ _ _ | exact Kd.V_nil _ _ _ _ _ | exact Kd.Q_nil _ _ _ _ _ | exact Kd.S_nil _ _ _ _ _, by repeat (first | (with_reducible first | exact HB.out | apply qd5 | apply qe5 | apply qf5 | refine qg5 ?_ GE212.out | refine qg5 ?_ GE213.out | refine qg5 ?_ GE214.out) | exact HB.out)⟩
      · rw [if_neg c14] at H
        have c14b0 : (a0_1 == 8) = false := beq_eq_false_iff_ne.mpr c14
        have c14b1 : (a0_1 != 8) = true := bne_iff_ne.mpr c14
        replace H := Option.bind_eq_some_iff.mp H
        obtain ⟨⟨t216, t217, t220, t223⟩, A260, H⟩ := H
        replace H : (some (a0_0, wrap64 (a0_1 + 1), t216, t217, t220, t223, 0)) = some (r1, r2, r3, r4, r5, r6, r7) := H
        have A26 := qh5 A260
        clear A260
        simp only [Option.some.injEq, Prod.mk.injEq] at H
        obtain ⟨rfl, rfl, rfl, rfl, rfl, rfl, rfl⟩ := H
        go_enter Tryd.func48, Tryd.ntmps48
        try go_wp2_with (first | ((with_reducible refine gate_dst (N := 2) rfl ?_); refine box_event ?hg (N := 2) ?hd (cs := #[.string a0_0, .int .i64 a0_1]) (t := 62) ?hr ?_; (case hd => rfl); (case hg => rfl); (case hr => first | (go_simp; done) | (go_simp; rfl)); intro gb212 hg w27 hbox hb; have n0_ := qh5 (qj5 (by repeat (first | (with_reducible first | exact HB.out | apply qd5 | apply qe5 | apply qf5) | exact HB.out)) hb); have n1_ := qh5 (hbox); have n2_ := qh5 ((by rw [hg]; exact (qk5 (by repeat (first | (with_reducible first | exact HB.out | apply qd5 | apply qe5 | apply qf5) | exact HB.out))) : w.heap.size ≤ gb212)); have n3_ := qh5 ((by rw [hg]; exact (qk5 (by repeat (first | (with_reducible first | exact HB.out | apply qd5 | apply qe5 | apply qf5) | exact HB.out))) : w.heap.size ≤ gb212)); clear HB; have HB := n0_; have BK212 := n1_; have GW212 := n2_; have GE212 := n3_; clear n0_ n1_ n2_ n3_; clear hb hbox hg) | ((with_reducible refine gate_dst (N := 4) rfl ?_); refine box_event ?hg (N := 4) ?hd (cs := #[.string (⟨#[]⟩ : ByteArray), .int .i64 0]) (t := 62) ?hr ?_; (case hd => rfl); (case hg => rfl); (case hr => first | (go_simp; done) | (go_simp; rfl)); intro gb213 hg w28 hbox hb; have n0_ := qh5 (qi5 (g := gb212) (o := .cells #[.string a0_0, .int .i64 a0_1] 62 (0, 0)) (by (with_reducible repeat (first | apply qa5 | apply qb5 | apply qc5)); exact BK212.out) hb); have n1_ := qh5 (qj5 (by repeat (first | (with_reducible first | exact HB.out | apply qd5 | apply qe5 | apply qf5 | refine qg5 ?_ GE212.out) | exact HB.out)) hb); have n2_ := qh5 (hbox); have n3_ := qh5 ((by rw [hg]; exact (qk5 (by repeat (first | (with_reducible first | exact HB.out | apply qd5 | apply qe5 | apply qf5 | refine qg5 ?_ GE212.out) | exact HB.out))) : w.heap.size ≤ gb213)); have n4_ := qh5 ((by rw [hg]; exact (qk5 (by repeat (first | (with_reducible first | exact HB.out | apply qd5 | apply qe5 | apply qf5 | refine qg5 ?_ GE212.out) | exact HB.out))) : w.heap.size ≤ gb213)); have n5_ := qh5 ((by rw [hg]; exact Nat.ne_of_lt (blk_lt (g := gb212) (o := .cells #[.string a0_0, .int .i64 a0_1] 62 (0, 0)) (by (with_reducible repeat (first | apply qa5 | apply qb5 | apply qc5)); exact BK212.out)) : gb212 ≠ gb213)); have n6_ := qh5 ((by rw [hg]; exact Nat.ne_of_gt (blk_lt (g := gb212) (o := .cells #[.string a0_0, .int .i64 a0_1] 62 (0, 0)) (by (with_reducible repeat (first | apply qa5 | apply qb5 | apply qc5)); exact BK212.out)) : gb213 ≠ gb212)); clear BK212; clear HB; have BK212 := n0_; have HB := n1_; have BK213 := n2_; have GW213 := n3_; have GE213 := n4_; have NB212_213 := n5_; have NB213_212 := n6_; clear n0_ n1_ n2_ n3_ n4_ n5_ n6_; clear hb hbox hg) | ((with_reducible refine gate_dst (N := 5) rfl ?_); refine box_event ?hg (N := 5) ?hd (cs := #[.int .i64 0, .slice none 0 0, .slice none 0 0, .slice none 0 0]) (t := 51) ?hr ?_; (case hd => rfl); (case hg => rfl); (case hr => first | (go_simp; done) | (go_simp; rfl)); intro gb214 hg w29 hbox hb; have n0_ := qh5 (qi5 (g := gb212) (o := .cells #[.string a0_0, .int .i64 a0_1] 62 (0, 0)) (by (with_reducible repeat (first | apply qa5 | apply qb5 | apply qc5)); exact BK212.out) hb); have n1_ := qh5 (qi5 (g := gb213) (o := .cells #[.string (⟨#[]⟩ : ByteArray), .int .i64 0] 62 (0, 0)) (by (with_reducible repeat (first | apply qa5 | apply qb5 | apply qc5)); exact BK213.out) hb); have n2_ := qh5 (qj5 (by repeat (first | (with_reducible first | exact HB.out | apply qd5 | apply qe5 | apply qf5 | refine qg5 ?_ GE212.out | refine qg5 ?_ GE213.out) | exact HB.out)) hb); have n3_ := qh5 (hbox); have n4_ := qh5 ((by rw [hg]; exact (qk5 (by repeat (first | (with_reducible first | exact HB.out | apply qd5 | apply qe5 | apply qf5 | refine qg5 ?_ GE212.out | refine qg5 ?_ GE213.out) | exact HB.out))) : w.heap.size ≤ gb214)); have n5_ := qh5 ((by rw [hg]; exact (qk5 (by repeat (first | (with_reducible first | exact HB.out | apply qd5 | apply qe5 | apply qf5 | refine qg5 ?_ GE212.out | refine qg5 ?_ GE213.out) | exact HB.out))) : w.heap.size ≤ gb214)); have n6_ := qh5 ((by rw [hg]; exact Nat.ne_of_lt (blk_lt (g := gb212) (o := .cells #[.string a0_0, .int .i64 a0_1] 62 (0, 0)) (by (with_reducible repeat (first | apply qa5 | apply qb5 | apply qc5)); exact BK212.out)) : gb212 ≠ gb214)); have n7_ := qh5 ((by rw [hg]; exact Nat.ne_of_gt (blk_lt (g := gb212) (o := .cells #[.string a0_0, .int .i64 a0_1] 62 (0, 0)) (by (with_reducible repeat (first | apply qa5 | apply qb5 | apply qc5)); exact BK212.out)) : gb214 ≠ gb212)); have n8_ := qh5 ((by rw [hg]; exact Nat.ne_of_lt (blk_lt (g := gb213) (o := .cells #[.string (⟨#[]⟩ : ByteArray), .int .i64 0] 62 (0, 0)) (by (with_reducible repeat (first | apply qa5 | apply qb5 | apply qc5)); exact BK213.out)) : gb213 ≠ gb214)); have n9_ := qh5 ((by rw [hg]; exact Nat.ne_of_gt (blk_lt (g := gb213) (o := .cells #[.string (⟨#[]⟩ : ByteArray), .int .i64 0] 62 (0, 0)) (by (with_reducible repeat (first | apply qa5 | apply qb5 | apply qc5)); exact BK213.out)) : gb214 ≠ gb213)); clear BK212; clear BK213; clear HB; have BK212 := n0_; have BK213 := n1_; have HB := n2_; have BK214 := n3_; have GW214 := n4_; have GE214 := n5_; have NB212_214 := n6_; have NB214_212 := n7_; have NB213_214 := n8_; have NB214_213 := n9_; clear n0_ n1_ n2_ n3_ n4_ n5_ n6_ n7_ n8_ n9_; clear hb hbox hg; have hnb30 := NB212_213.out; have hnc30 := NB213_212.out; have hnb31 := NB212_214.out; have hnc31 := NB214_212.out; have hcz32_0 : w29.cell? ⟨gb212, 0, none⟩ = some (.string a0_0) := (blk_cell BK212.out 0).trans rfl; have hcz32_1 : w29.cell? ⟨gb212, 1, none⟩ = some (.int .i64 a0_1) := (blk_cell BK212.out 1).trans rfl; have hfz32_0 := blk_frozen BK212.out 0; have hfz32_1 := blk_frozen BK212.out 1) | ((with_reducible refine gate_callee (f := 93) rfl ?_); refine goesL_ (some 14) rfl rfl Tryd.func93 (by kernel_rfl) rfl #[.agg #[.string a0_0, .int .i64 a0_1]] rfl (by (try simp only [List.map_toArray, List.map_cons, List.map_nil]); first | done | rfl | (simp only [List.length_drop, List.length_take]; rfl)) ?_; (with_reducible refine (spec_KeyChainOK.calls a0_0 a0_1 true _ A12.out).mono ?_); rintro e w33 ⟨rfl, hb⟩; refine ⟨_, rfl, ?_⟩; have n0_ := qh5 (qi5 (g := gb212) (o := .cells #[.string a0_0, .int .i64 a0_1] 62 (0, 0)) (by (with_reducible repeat (first | apply qa5 | apply qb5 | apply qc5)); exact BK212.out) hb); have n1_ := qh5 (qi5 (g := gb213) (o := .cells #[.string (⟨#[]⟩ : ByteArray), .int .i64 0] 62 (0, 0)) (by (with_reducible repeat (first | apply qa5 | apply qb5 | apply qc5)); exact BK213.out) hb); have n2_ := qh5 (qi5 (g := gb214) (o := .cells #[.int .i64 0, .slice none 0 0, .slice none 0 0, .slice none 0 0] 51 (0, 0)) (by (with_reducible repeat (first | apply qa5 | apply qb5 | apply qc5)); exact BK214.out) hb); have n3_ := qh5 (qj5 (by repeat (first | (with_reducible first | exact HB.out | apply qd5 | apply qe5 | apply qf5 | refine qg5 ?_ GE212.out | refine qg5 ?_ GE213.out | refine qg5 ?_ GE214.out) | exact HB.out)) hb); clear BK212; clear BK213; clear BK214; clear HB; have BK212 := n0_; have BK213 := n1_; have BK214 := n2_; have HB := n3_; clear n0_ n1_ n2_ n3_; (try clear hb); (try clear hb2); (try clear hk); (try clear hi); have hcz34_0 : w33.cell? ⟨gb212, 0, none⟩ = some (.string a0_0) := (blk_cell BK212.out 0).trans rfl; have hcz34_1 : w33.cell? ⟨gb212, 1, none⟩ = some (.int .i64 a0_1) := (blk_cell BK212.out 1).trans rfl; have hfz34_0 := blk_frozen BK212.out 0; have hfz34_1 := blk_frozen BK212.out 1) | ((with_reducible refine gate_callee (f := 89) rfl ?_); refine goesL_ (some 28) rfl rfl Tryd.func89 (by kernel_rfl) rfl #[.string a0_0, .int .i64 a0_1, .string a1] rfl (by (try simp only [List.map_toArray, List.map_cons, List.map_nil]); first | done | rfl | (simp only [List.length_drop, List.length_take]; rfl)) ?_; (with_reducible refine (spec_l03Sign.calls k a0_0 a0_1 a1 t216 t217 t220 t223 _ A26.out).mono ?_); rintro e w35 ⟨v218, v221, v224, rfl, ho0, ho1, ho2, hb⟩; refine ⟨_, rfl, ?_⟩; have n0_ := qh5 (Kd.R_lower ho0 (qk5 (by repeat (first | (with_reducible first | exact HB.out | apply qd5 | apply qe5 | apply qf5 | refine qg5 ?_ GE212.out | refine qg5 ?_ GE213.out | refine qg5 ?_ GE214.out) | exact HB.out)))); have n1_ := qh5 (Kd.R_lower ho1 (qk5 (by repeat (first | (with_reducible first | exact HB.out | apply qd5 | apply qe5 | apply qf5 | refine qg5 ?_ GE212.out | refine qg5 ?_ GE213.out | refine qg5 ?_ GE214.out) | exact HB.out)))); have n2_ := qh5 (Kd.R_lower ho2 (qk5 (by repeat (first | (with_reducible first | exact HB.out | apply qd5 | apply qe5 | apply qf5 | refine qg5 ?_ GE212.out | refine qg5 ?_ GE213.out | refine qg5 ?_ GE214.out) | exact HB.out)))); have n3_ := qh5 (qi5 (g := gb212) (o := .cells #[.string a0_0, .int .i64 a0_1] 62 (0, 0)) (by (with_reducible repeat (first | apply qa5 | apply qb5 | apply qc5)); exact BK212.out) hb); have n4_ := qh5 (qi5 (g := gb213) (o := .cells #[.string (⟨#[]⟩ : ByteArray), .int .i64 0] 62 (0, 0)) (by (with_reducible repeat (first | apply qa5 | apply qb5 | apply qc5)); exact BK213.out) hb); have n5_ := qh5 (qi5 (g := gb214) (o := .cells #[.int .i64 0, .slice none 0 0, .slice none 0 0, .slice none 0 0] 51 (0, 0)) (by (with_reducible repeat (first | apply qa5 | apply qb5 | apply qc5)); exact BK214.out) hb); have n6_ := qh5 (qj5 (by repeat (first | (with_reducible first | exact HB.out | apply qd5 | apply qe5 | apply qf5 | refine qg5 ?_ GE212.out | refine qg5 ?_ GE213.out | refine qg5 ?_ GE214.out) | exact HB.out)) hb); clear BK212; clear BK213; clear BK214; clear HB; have HO219 := n0_; have HO222 := n1_; have HO225 := n2_; have BK212 := n3_; have BK213 := n4_; have BK214 := n5_; have HB := n6_; clear n0_ n1_ n2_ n3_ n4_ n5_ n6_; (try clear hb); (try clear hb2); (try clear hk); (try clear hi); (try clear ho0); (try clear ho1); (try clear ho2)) | ((with_reducible refine gate_dst (N := 7) rfl ?_); refine box_event ?hg (N := 7) ?hd (cs := #[.int .i64 0, .slice none 0 0, .slice none 0 0, .slice none 0 0]) (t := 51) ?hr ?_; (case hd => rfl); (case hg => rfl); (case hr => first | (go_simp; done) | (go_simp; rfl)); intro gb226 hg w36 hbox hb; have n0_ := qh5 (Kd.R_below (by (with_reducible repeat (first | apply Kd.R_alloc | apply Kd.R_drewN | apply Kd.R_drew)); exact HO219.out) hb); have n1_ := qh5 (Kd.R_below (by (with_reducible repeat (first | apply Kd.R_alloc | apply Kd.R_drewN | apply Kd.R_drew)); exact HO222.out) hb); have n2_ := qh5 (Kd.R_below (by (with_reducible repeat (first | apply Kd.R_alloc | apply Kd.R_drewN | apply Kd.R_drew)); exact HO225.out) hb); have n3_ := qh5 (qi5 (g := gb212) (o := .cells #[.string a0_0, .int .i64 a0_1] 62 (0, 0)) (by (with_reducible repeat (first | apply qa5 | apply qb5 | apply qc5)); exact BK212.out) hb); have n4_ := qh5 (qi5 (g := gb213) (o := .cells #[.string (⟨#[]⟩ : ByteArray), .int .i64 0] 62 (0, 0)) (by (with_reducible repeat (first | apply qa5 | apply qb5 | apply qc5)); exact BK213.out) hb); have n5_ := qh5 (qi5 (g := gb214) (o := .cells #[.int .i64 0, .slice none 0 0, .slice none 0 0, .slice none 0 0] 51 (0, 0)) (by (with_reducible repeat (first | apply qa5 | apply qb5 | apply qc5)); exact BK214.out) hb); have n6_ := qh5 (qj5 (by repeat (first | (with_reducible first | exact HB.out | apply qd5 | apply qe5 | apply qf5 | refine qg5 ?_ GE212.out | refine qg5 ?_ GE213.out | refine qg5 ?_ GE214.out) | exact HB.out)) hb); have n7_ := qh5 (hbox); have n8_ := qh5 ((by rw [hg]; exact (qk5 (by repeat (first | (with_reducible first | exact HB.out | apply qd5 | apply qe5 | apply qf5 | refine qg5 ?_ GE212.out | refine qg5 ?_ GE213.out | refine qg5 ?_ GE214.out) | exact HB.out))) : w.heap.size ≤ gb226)); have n9_ := qh5 ((by rw [hg]; exact (qk5 (by repeat (first | (with_reducible first | exact HB.out | apply qd5 | apply qe5 | apply qf5 | refine qg5 ?_ GE212.out | refine qg5 ?_ GE213.out | refine qg5 ?_ GE214.out) | exact HB.out))) : w.heap.size ≤ gb226)); have n10_ := qh5 ((by rw [hg]; exact Nat.ne_of_lt (blk_lt (g := gb212) (o := .cells #[.string a0_0, .int .i64 a0_1] 62 (0, 0)) (by (with_reducible repeat (first | apply qa5 | apply qb5 | apply qc5)); exact BK212.out)) : gb212 ≠ gb226)); have n11_ := qh5 ((by rw [hg]; exact Nat.ne_of_gt (blk_lt (g := gb212) (o := .cells #[.string a0_0, .int .i64 a0_1] 62 (0, 0)) (by (with_reducible repeat (first | apply qa5 | apply qb5 | apply qc5)); exact BK212.out)) : gb226 ≠ gb212)); have n12_ := qh5 ((by rw [hg]; exact Nat.ne_of_lt (blk_lt (g := gb213) (o := .cells #[.string (⟨#[]⟩ : ByteArray), .int .i64 0] 62 (0, 0)) (by (with_reducible repeat (first | apply qa5 | apply qb5 | apply qc5)); exact BK213.out)) : gb213 ≠ gb226)); have n13_ := qh5 ((by rw [hg]; exact Nat.ne_of_gt (blk_lt (g := gb213) (o := .cells #[.string (⟨#[]⟩ : ByteArray), .int .i64 0] 62 (0, 0)) (by (with_reducible repeat (first | apply qa5 | apply qb5 | apply qc5)); exact BK213.out)) : gb226 ≠ gb213)); have n14_ := qh5 ((by rw [hg]; exact Nat.ne_of_lt (blk_lt (g := gb214) (o := .cells #[.int .i64 0, .slice none 0 0, .slice none 0 0, .slice none 0 0] 51 (0, 0)) (by (with_reducible repeat (first | apply qa5 | apply qb5 | apply qc5)); exact BK214.out)) : gb214 ≠ gb226)); have n15_ := qh5 ((by rw [hg]; exact Nat.ne_of_gt (blk_lt (g := gb214) (o := .cells #[.int .i64 0, .slice none 0 0, .slice none 0 0, .slice none 0 0] 51 (0, 0)) (by (with_reducible repeat (first | apply qa5 | apply qb5 | apply qc5)); exact BK214.out)) : gb226 ≠ gb214)); clear HO219; clear HO222; clear HO225; clear BK212; clear BK213; clear BK214; clear HB; have HO219 := n0_; have HO222 := n1_; have HO225 := n2_; have BK212 := n3_; have BK213 := n4_; have BK214 := n5_; have HB := n6_; have BK226 := n7_; have GW226 := n8_; have GE226 := n9_; have NB212_226 := n10_; have NB226_212 := n11_; have NB213_226 := n12_; have NB226_213 := n13_; have NB214_226 := n14_; have NB226_214 := n15_; clear n0_ n1_ n2_ n3_ n4_ n5_ n6_ n7_ n8_ n9_ n10_ n11_ n12_ n13_ n14_ n15_; clear hb hbox hg; have hnb37 := NB226_212.out; have hnc37 := NB212_226.out; have hnb38 := NB226_213.out; have hnc38 := NB213_226.out; have hnb39 := NB226_214.out; have hnc39 := NB214_226.out; have hcz40_0 : w36.cell? ⟨gb226, 0, none⟩ = some (.int .i64 0) := (blk_cell BK226.out 0).trans rfl; have hcz40_1 : w36.cell? ⟨gb226, 1, none⟩ = some (.slice none 0 0) := (blk_cell BK226.out 1).trans rfl; have hcz40_2 : w36.cell? ⟨gb226, 2, none⟩ = some (.slice none 0 0) := (blk_cell BK226.out 2).trans rfl; have hcz40_3 : w36.cell? ⟨gb226, 3, none⟩ = some (.slice none 0 0) := (blk_cell BK226.out 3).trans rfl; have hfz40_0 := blk_frozen BK226.out 0; have hfz40_1 := blk_frozen BK226.out 1; have hfz40_2 := blk_frozen BK226.out 2; have hfz40_3 := blk_frozen BK226.out 3; obtain ⟨Ao41, co41, eo41⟩ := Kd.R_slice HO219.out; subst eo41; obtain ⟨Ao42, co42, eo42⟩ := Kd.R_slice HO222.out; subst eo42; obtain ⟨Ao43, co43, eo43⟩ := Kd.R_slice HO225.out; subst eo43; have hcz44_0 : w36.cell? ⟨gb212, 0, none⟩ = some (.string a0_0) := (blk_cell BK212.out 0).trans rfl; have hcz44_1 : w36.cell? ⟨gb212, 1, none⟩ = some (.int .i64 a0_1) := (blk_cell BK212.out 1).trans rfl; have hfz44_0 := blk_frozen BK212.out 0; have hfz44_1 := blk_frozen BK212.out 1))
        have n0_ : Aside0 (Kd.R Kd.string 9 (((((w36.setCell ⟨gb226, 0, none⟩ (.int .i64 t216)).setCell ⟨gb226, 1, none⟩ (.slice Ao41 t217.length co41)).setCell ⟨gb226, 2, none⟩ (.slice Ao42 t220.length co42)).setCell ⟨gb226, 3, none⟩ (.slice Ao43 t223.length co43)).setCell ⟨gb212, 1, none⟩ (.int .i64 (wrap64 (a0_1 + 1)))) w.heap.size (fun k_ => some k_ ≠ (.slice Ao42 t220.length co42 : Value).ownBlock ∧ some k_ ≠ (.slice Ao43 t223.length co43 : Value).ownBlock) (.slice Ao41 t217.length co41) t217) := ⟨by (with_reducible repeat (first | apply Kd.R_alloc | apply Kd.R_drewN | apply Kd.R_drew)); exact Kd.R_mono (Kd.R_far (p := ⟨gb212, 1, none⟩) (Kd.R_far (p := ⟨gb226, 3, none⟩) (Kd.R_far (p := ⟨gb226, 2, none⟩) (Kd.R_far (p := ⟨gb226, 1, none⟩) (Kd.R_far (p := ⟨gb226, 0, none⟩) (Kd.R_types (Kd.R_types HO219.out BK226.out (by decide)) BK212.out (by decide)) (fun _ hk => hk.1.2) (.int .i64 t216)) (fun _ hk => hk.1.2) (.slice Ao41 t217.length co41)) (fun _ hk => hk.1.2) (.slice Ao42 t220.length co42)) (fun _ hk => hk.1.2) (.slice Ao43 t223.length co43)) (fun _ hk => hk.2) (.int .i64 (wrap64 (a0_1 + 1)))) (fun _ hk => ⟨hk.1.1.1, hk.1.1.2⟩)⟩
        have n1_ : Aside0 (Kd.R Kd.string 9 (((((w36.setCell ⟨gb226, 0, none⟩ (.int .i64 t216)).setCell ⟨gb226, 1, none⟩ (.slice Ao41 t217.length co41)).setCell ⟨gb226, 2, none⟩ (.slice Ao42 t220.length co42)).setCell ⟨gb226, 3, none⟩ (.slice Ao43 t223.length co43)).setCell ⟨gb212, 1, none⟩ (.int .i64 (wrap64 (a0_1 + 1)))) w.heap.size (fun k_ => some k_ ≠ (.slice Ao41 t217.length co41 : Value).ownBlock ∧ some k_ ≠ (.slice Ao43 t223.length co43 : Value).ownBlock) (.slice Ao42 t220.length co42) t220) := ⟨by (with_reducible repeat (first | apply Kd.R_alloc | apply Kd.R_drewN | apply Kd.R_drew)); exact Kd.R_mono (Kd.R_far (p := ⟨gb212, 1, none⟩) (Kd.R_far (p := ⟨gb226, 3, none⟩) (Kd.R_far (p := ⟨gb226, 2, none⟩) (Kd.R_far (p := ⟨gb226, 1, none⟩) (Kd.R_far (p := ⟨gb226, 0, none⟩) (Kd.R_types (Kd.R_types HO222.out BK226.out (by decide)) BK212.out (by decide)) (fun _ hk => hk.1.2) (.int .i64 t216)) (fun _ hk => hk.1.2) (.slice Ao41 t217.length co41)) (fun _ hk => hk.1.2) (.slice Ao42 t220.length co42)) (fun _ hk => hk.1.2) (.slice Ao43 t223.length co43)) (fun _ hk => hk.2) (.int .i64 (wrap64 (a0_1 + 1)))) (fun _ hk => ⟨hk.1.1.1, hk.1.1.2⟩)⟩
        have n2_ : Aside0 (Kd.R Kd.string 9 (((((w36.setCell ⟨gb226, 0, none⟩ (.int .i64 t216)).setCell ⟨gb226, 1, none⟩ (.slice Ao41 t217.length co41)).setCell ⟨gb226, 2, none⟩ (.slice Ao42 t220.length co42)).setCell ⟨gb226, 3, none⟩ (.slice Ao43 t223.length co43)).setCell ⟨gb212, 1, none⟩ (.int .i64 (wrap64 (a0_1 + 1)))) w.heap.size (fun k_ => some k_ ≠ (.slice Ao41 t217.length co41 : Value).ownBlock ∧ some k_ ≠ (.slice Ao42 t220.length co42 : Value).ownBlock) (.slice Ao43 t223.length co43) t223) := ⟨by (with_reducible repeat (first | apply Kd.R_alloc | apply Kd.R_drewN | apply Kd.R_drew)); exact Kd.R_mono (Kd.R_far (p := ⟨gb212, 1, none⟩) (Kd.R_far (p := ⟨gb226, 3, none⟩) (Kd.R_far (p := ⟨gb226, 2, none⟩) (Kd.R_far (p := ⟨gb226, 1, none⟩) (Kd.R_far (p := ⟨gb226, 0, none⟩) (Kd.R_types (Kd.R_types HO225.out BK226.out (by decide)) BK212.out (by decide)) (fun _ hk => hk.1.2) (.int .i64 t216)) (fun _ hk => hk.1.2) (.slice Ao41 t217.length co41)) (fun _ hk => hk.1.2) (.slice Ao42 t220.length co42)) (fun _ hk => hk.1.2) (.slice Ao43 t223.length co43)) (fun _ hk => hk.2) (.int .i64 (wrap64 (a0_1 + 1)))) (fun _ hk => ⟨hk.1.1.1, hk.1.1.2⟩)⟩
        have n3_ : Aside0 ((((((w36.setCell ⟨gb226, 0, none⟩ (.int .i64 t216)).setCell ⟨gb226, 1, none⟩ (.slice Ao41 t217.length co41)).setCell ⟨gb226, 2, none⟩ (.slice Ao42 t220.length co42)).setCell ⟨gb226, 3, none⟩ (.slice Ao43 t223.length co43)).setCell ⟨gb212, 1, none⟩ (.int .i64 (wrap64 (a0_1 + 1)))).heap[gb212]? = some (.cells #[.string a0_0, .int .i64 (wrap64 (a0_1 + 1))] 62 (0, 0))) := ⟨by (with_reducible repeat (first | apply qa5 | apply qb5 | apply qc5)); refine blk_put (cs := #[.string a0_0, .int .i64 a0_1]) ?_ 1 _ rfl; (with_reducible repeat (first | apply qa5 | apply qb5 | apply qc5)); refine ql5 ?_ NB212_226.out _; (with_reducible repeat (first | apply qa5 | apply qb5 | apply qc5)); refine ql5 ?_ NB212_226.out _; (with_reducible repeat (first | apply qa5 | apply qb5 | apply qc5)); refine ql5 ?_ NB212_226.out _; (with_reducible repeat (first | apply qa5 | apply qb5 | apply qc5)); refine ql5 ?_ NB212_226.out _; (with_reducible repeat (first | apply qa5 | apply qb5 | apply qc5)); exact BK212.out⟩
        have n4_ : Aside0 ((((((w36.setCell ⟨gb226, 0, none⟩ (.int .i64 t216)).setCell ⟨gb226, 1, none⟩ (.slice Ao41 t217.length co41)).setCell ⟨gb226, 2, none⟩ (.slice Ao42 t220.length co42)).setCell ⟨gb226, 3, none⟩ (.slice Ao43 t223.length co43)).setCell ⟨gb212, 1, none⟩ (.int .i64 (wrap64 (a0_1 + 1)))).heap[gb213]? = some (.cells #[.string (⟨#[]⟩ : ByteArray), .int .i64 0] 62 (0, 0))) := ⟨by (with_reducible repeat (first | apply qa5 | apply qb5 | apply qc5)); refine ql5 ?_ NB213_212.out _; (with_reducible repeat (first | apply qa5 | apply qb5 | apply qc5)); refine ql5 ?_ NB213_226.out _; (with_reducible repeat (first | apply qa5 | apply qb5 | apply qc5)); refine ql5 ?_ NB213_226.out _; (with_reducible repeat (first | apply qa5 | apply qb5 | apply qc5)); refine ql5 ?_ NB213_226.out _; (with_reducible repeat (first | apply qa5 | apply qb5 | apply qc5)); refine ql5 ?_ NB213_226.out _; (with_reducible repeat (first | apply qa5 | apply qb5 | apply qc5)); exact BK213.out⟩
        have n5_ : Aside0 ((((((w36.setCell ⟨gb226, 0, none⟩ (.int .i64 t216)).setCell ⟨gb226, 1, none⟩ (.slice Ao41 t217.length co41)).setCell ⟨gb226, 2, none⟩ (.slice Ao42 t220.length co42)).setCell ⟨gb226, 3, none⟩ (.slice Ao43 t223.length co43)).setCell ⟨gb212, 1, none⟩ (.int .i64 (wrap64 (a0_1 + 1)))).heap[gb214]? = some (.cells #[.int .i64 0, .slice none 0 0, .slice none 0 0, .slice none 0 0] 51 (0, 0))) := ⟨by (with_reducible repeat (first | apply qa5 | apply qb5 | apply qc5)); refine ql5 ?_ NB214_212.out _; (with_reducible repeat (first | apply qa5 | apply qb5 | apply qc5)); refine ql5 ?_ NB214_226.out _; (with_reducible repeat (first | apply qa5 | apply qb5 | apply qc5)); refine ql5 ?_ NB214_226.out _; (with_reducible repeat (first | apply qa5 | apply qb5 | apply qc5)); refine ql5 ?_ NB214_226.out _; (with_reducible repeat (first | apply qa5 | apply qb5 | apply qc5)); refine ql5 ?_ NB214_226.out _; (with_reducible repeat (first | apply qa5 | apply qb5 | apply qc5)); exact BK214.out⟩
        have n6_ : Aside0 ((((((w36.setCell ⟨gb226, 0, none⟩ (.int .i64 t216)).setCell ⟨gb226, 1, none⟩ (.slice Ao41 t217.length co41)).setCell ⟨gb226, 2, none⟩ (.slice Ao42 t220.length co42)).setCell ⟨gb226, 3, none⟩ (.slice Ao43 t223.length co43)).setCell ⟨gb212, 1, none⟩ (.int .i64 (wrap64 (a0_1 + 1)))).heap[gb226]? = some (.cells #[.int .i64 t216, .slice Ao41 t217.length co41, .slice Ao42 t220.length co42, .slice Ao43 t223.length co43] 51 (0, 0))) := ⟨by (with_reducible repeat (first | apply qa5 | apply qb5 | apply qc5)); refine ql5 ?_ NB226_212.out _; (with_reducible repeat (first | apply qa5 | apply qb5 | apply qc5)); refine blk_put (cs := #[.int .i64 t216, .slice Ao41 t217.length co41, .slice Ao42 t220.length co42, .slice none 0 0]) ?_ 3 _ rfl; (with_reducible repeat (first | apply qa5 | apply qb5 | apply qc5)); refine blk_put (cs := #[.int .i64 t216, .slice Ao41 t217.length co41, .slice none 0 0, .slice none 0 0]) ?_ 2 _ rfl; (with_reducible repeat (first | apply qa5 | apply qb5 | apply qc5)); refine blk_put (cs := #[.int .i64 t216, .slice none 0 0, .slice none 0 0, .slice none 0 0]) ?_ 1 _ rfl; (with_reducible repeat (first | apply qa5 | apply qb5 | apply qc5)); refine blk_put (cs := #[.int .i64 0, .slice none 0 0, .slice none 0 0, .slice none 0 0]) ?_ 0 _ rfl; (with_reducible repeat (first | apply qa5 | apply qb5 | apply qc5)); exact BK226.out⟩
        have n7_ : Aside0 (Below w.heap.size w (((((w36.setCell ⟨gb226, 0, none⟩ (.int .i64 t216)).setCell ⟨gb226, 1, none⟩ (.slice Ao41 t217.length co41)).setCell ⟨gb226, 2, none⟩ (.slice Ao42 t220.length co42)).setCell ⟨gb226, 3, none⟩ (.slice Ao43 t223.length co43)).setCell ⟨gb212, 1, none⟩ (.int .i64 (wrap64 (a0_1 + 1))))) := ⟨by repeat (first | (with_reducible first | exact HB.out | apply qd5 | apply qe5 | apply qf5 | refine qg5 ?_ GE212.out | refine qg5 ?_ GE213.out | refine qg5 ?_ GE214.out | refine qg5 ?_ GE226.out) | exact HB.out)⟩
        (try clear HO219)
        (try clear HO222)
        (try clear HO225)
        (try clear BK212)
        (try clear BK213)
        (try clear BK214)
        (try clear BK226)
        (try clear HB)
        generalize (((((w36.setCell ⟨gb226, 0, none⟩ (.int .i64 t216)).setCell ⟨gb226, 1, none⟩ (.slice Ao41 t217.length co41)).setCell ⟨gb226, 2, none⟩ (.slice Ao42 t220.length co42)).setCell ⟨gb226, 3, none⟩ (.slice Ao43 t223.length co43)).setCell ⟨gb212, 1, none⟩ (.int .i64 (wrap64 (a0_1 + 1)))) = w45 at n0_ n1_ n2_ n3_ n4_ n5_ n6_ n7_ ⊢
        have HO219 := n0_
        have HO222 := n1_
        have HO225 := n2_
        have BK212 := n3_
        have BK213 := n4_
        have BK214 := n5_
        have BK226 := n6_
        have HB := n7_
        clear n0_ n1_ n2_ n3_ n4_ n5_ n6_ n7_
        have n0_ := qh5 (Kd.R_drew HO219.out)
        have n1_ := qh5 (Kd.R_drew HO222.out)
        have n2_ := qh5 (Kd.R_drew HO225.out)
        have n3_ := qh5 (qb5 BK212.out)
        have n4_ := qh5 (qb5 BK213.out)
        have n5_ := qh5 (qb5 BK214.out)
        have n6_ := qh5 (qb5 BK226.out)
        have n7_ := qh5 (qf5 HB.out)
        clear HO219
        clear HO222
        clear HO225
        clear BK212
        clear BK213
        clear BK214
        clear BK226
        clear HB
        have HO219 := n0_
        have HO222 := n1_
        have HO225 := n2_
        have BK212 := n3_
        have BK213 := n4_
        have BK214 := n5_
        have BK226 := n6_
        have HB := n7_
        clear n0_ n1_ n2_ n3_ n4_ n5_ n6_ n7_
        refine start_ (n := 5) (S := fun w' => w'.cell? ⟨gb212, 0, none⟩ = some (.string a0_0) ∧ w'.cell? ⟨gb212, 1, none⟩ = some (.int .i64 (wrap64 (a0_1 + 1))) ∧ w'.cell? ⟨gb226, 0, none⟩ = some (.int .i64 t216) ∧ w'.cell? ⟨gb226, 1, none⟩ = some (.slice Ao41 t217.length co41) ∧ w'.cell? ⟨gb226, 2, none⟩ = some (.slice Ao42 t220.length co42) ∧ w'.cell? ⟨gb226, 3, none⟩ = some (.slice Ao43 t223.length co43)) (ds := []) #[false, false, false, false, false] (by kernel_rfl) rfl rfl ⟨(blk_cell BK212.out 0).trans rfl, (blk_cell BK212.out 1).trans rfl, (blk_cell BK226.out 0).trans rfl, (blk_cell BK226.out 1).trans rfl, (blk_cell BK226.out 2).trans rfl, (blk_cell BK226.out 3).trans rfl⟩ (fun hHeld => ?_)
        generalize w45.drew = w46 at HO219 HO222 HO225 BK212 BK213 BK214 BK226 HB hHeld ⊢
        refine take_ (i := 0) (N := some 33) (v := ?_) (a' := ?_) #[true, false, false, false, false] rfl rfl (by kernel_rfl) (fun _ _ _ h => h) (Or.inl ⟨by rfl, ?_⟩) hHeld ?_ ?_
        rotate_left
        · rintro w' ⟨s0, s1, s2, s3, s4, s5⟩
          go_simp
          with_reducible rfl
        rotate_left
        · simp only [Act.put, List.setIfInBounds_toArray, List.set_cons_zero, List.set_cons_succ, i64_w, i32_w]
          rfl
        refine take_ (i := 1) (N := some 34) (v := ?_) (a' := ?_) #[true, true, false, false, false] rfl rfl (by kernel_rfl) (fun _ _ _ h => h) (Or.inl ⟨by rfl, ?_⟩) hHeld ?_ ?_
        rotate_left
        · rintro w' ⟨s0, s1, s2, s3, s4, s5⟩
          go_simp
          with_reducible rfl
        rotate_left
        · simp only [Act.put, List.setIfInBounds_toArray, List.set_cons_zero, List.set_cons_succ, i64_w, i32_w]
          rfl
        refine one_ (i := 2) (N := none) #[true, true, true, false, false] rfl rfl (by kernel_rfl) (by decide) (fun K hK => ?_)
        have hs47 : w46.cell? ⟨gb213, 0, none⟩ = some (.string (⟨#[]⟩ : ByteArray)) := (blk_cell BK213.out 0).trans rfl
        have hfs47 := blk_frozen BK213.out 0
        have hns47_0 := NB212_213.out
        have hns47_2 := NB214_213.out
        have hns47_3 := NB226_213.out
        have hms47_0 := NB213_212.out
        have hms47_2 := NB213_214.out
        have hms47_3 := NB213_226.out
        have hs48 : w46.cell? ⟨gb213, 1, none⟩ = some (.int .i64 0) := (blk_cell BK213.out 1).trans rfl
        have hfs48 := blk_frozen BK213.out 1
        have hns48_0 := NB212_213.out
        have hns48_2 := NB214_213.out
        have hns48_3 := NB226_213.out
        have hms48_0 := NB213_212.out
        have hms48_2 := NB213_214.out
        have hms48_3 := NB213_226.out
        refine skip_ (w1 := ?_) (by rfl) rfl ?_ ?_
        rotate_left
        · go_simp
          rfl
        refine hK.out _ _ ⟨((cell_far (p := ⟨gb213, _, none⟩) NB212_213.out _).trans (((cell_far (p := ⟨gb213, _, none⟩) NB212_213.out _).trans (hHeld.1)))), ((cell_far (p := ⟨gb213, _, none⟩) NB212_213.out _).trans (((cell_far (p := ⟨gb213, _, none⟩) NB212_213.out _).trans (hHeld.2.1)))), ((cell_far (p := ⟨gb213, _, none⟩) NB226_213.out _).trans (((cell_far (p := ⟨gb213, _, none⟩) NB226_213.out _).trans (hHeld.2.2.1)))), ((cell_far (p := ⟨gb213, _, none⟩) NB226_213.out _).trans (((cell_far (p := ⟨gb213, _, none⟩) NB226_213.out _).trans (hHeld.2.2.2.1)))), ((cell_far (p := ⟨gb213, _, none⟩) NB226_213.out _).trans (((cell_far (p := ⟨gb213, _, none⟩) NB226_213.out _).trans (hHeld.2.2.2.2.1)))), ((cell_far (p := ⟨gb213, _, none⟩) NB226_213.out _).trans (((cell_far (p := ⟨gb213, _, none⟩) NB226_213.out _).trans (hHeld.2.2.2.2.2))))⟩ (fun hHeld => ?_)
        clear hK K
        refine one_ (i := 3) (N := none) #[true, true, true, true, false] rfl rfl (by kernel_rfl) (by decide) (fun K hK => ?_)
        have hs49 : w46.cell? ⟨gb214, 0, none⟩ = some (.int .i64 0) := (blk_cell BK214.out 0).trans rfl
        have hfs49 := blk_frozen BK214.out 0
        have hns49_0 := NB212_214.out
        have hns49_1 := NB213_214.out
        have hns49_3 := NB226_214.out
        have hms49_0 := NB214_212.out
        have hms49_1 := NB214_213.out
        have hms49_3 := NB214_226.out
        have hs50 : w46.cell? ⟨gb214, 1, none⟩ = some (.slice none 0 0) := (blk_cell BK214.out 1).trans rfl
        have hfs50 := blk_frozen BK214.out 1
        have hns50_0 := NB212_214.out
        have hns50_1 := NB213_214.out
        have hns50_3 := NB226_214.out
        have hms50_0 := NB214_212.out
        have hms50_1 := NB214_213.out
        have hms50_3 := NB214_226.out
        have hs51 : w46.cell? ⟨gb214, 2, none⟩ = some (.slice none 0 0) := (blk_cell BK214.out 2).trans rfl
        have hfs51 := blk_frozen BK214.out 2
        have hns51_0 := NB212_214.out
        have hns51_1 := NB213_214.out
        have hns51_3 := NB226_214.out
        have hms51_0 := NB214_212.out
        have hms51_1 := NB214_213.out
        have hms51_3 := NB214_226.out
        have hs52 : w46.cell? ⟨gb214, 3, none⟩ = some (.slice none 0 0) := (blk_cell BK214.out 3).trans rfl
        have hfs52 := blk_frozen BK214.out 3
        have hns52_0 := NB212_214.out
        have hns52_1 := NB213_214.out
        have hns52_3 := NB226_214.out
        have hms52_0 := NB214_212.out
        have hms52_1 := NB214_213.out
        have hms52_3 := NB214_226.out
        refine skip_ (w1 := ?_) (by rfl) rfl ?_ ?_
        rotate_left
        · go_simp
          rfl
        refine hK.out _ _ ⟨((cell_far (p := ⟨gb214, _, none⟩) NB212_214.out _).trans (((cell_far (p := ⟨gb214, _, none⟩) NB212_214.out _).trans (((cell_far (p := ⟨gb214, _, none⟩) NB212_214.out _).trans (((cell_far (p := ⟨gb214, _, none⟩) NB212_214.out _).trans (hHeld.1)))))))), ((cell_far (p := ⟨gb214, _, none⟩) NB212_214.out _).trans (((cell_far (p := ⟨gb214, _, none⟩) NB212_214.out _).trans (((cell_far (p := ⟨gb214, _, none⟩) NB212_214.out _).trans (((cell_far (p := ⟨gb214, _, none⟩) NB212_214.out _).trans (hHeld.2.1)))))))), ((cell_far (p := ⟨gb214, _, none⟩) NB226_214.out _).trans (((cell_far (p := ⟨gb214, _, none⟩) NB226_214.out _).trans (((cell_far (p := ⟨gb214, _, none⟩) NB226_214.out _).trans (((cell_far (p := ⟨gb214, _, none⟩) NB226_214.out _).trans (hHeld.2.2.1)))))))), ((cell_far (p := ⟨gb214, _, none⟩) NB226_214.out _).trans (((cell_far (p := ⟨gb214, _, none⟩) NB226_214.out _).trans (((cell_far (p := ⟨gb214, _, none⟩) NB226_214.out _).trans (((cell_far (p := ⟨gb214, _, none⟩) NB226_214.out _).trans (hHeld.2.2.2.1)))))))), ((cell_far (p := ⟨gb214, _, none⟩) NB226_214.out _).trans (((cell_far (p := ⟨gb214, _, none⟩) NB226_214.out _).trans (((cell_far (p := ⟨gb214, _, none⟩) NB226_214.out _).trans (((cell_far (p := ⟨gb214, _, none⟩) NB226_214.out _).trans (hHeld.2.2.2.2.1)))))))), ((cell_far (p := ⟨gb214, _, none⟩) NB226_214.out _).trans (((cell_far (p := ⟨gb214, _, none⟩) NB226_214.out _).trans (((cell_far (p := ⟨gb214, _, none⟩) NB226_214.out _).trans (((cell_far (p := ⟨gb214, _, none⟩) NB226_214.out _).trans (hHeld.2.2.2.2.2))))))))⟩ (fun hHeld => ?_)
        clear hK K
        refine pure_ (i := 4) (N := some 6) (v := ?_) (a' := ?_) #[true, true, true, true, true] rfl rfl (by kernel_rfl) (fun _ _ _ h => h) (Or.inl ⟨by rfl, ?_⟩) ?_ ?_
        rotate_left
        · intro w'
          go_simp
          with_reducible rfl
        rotate_left
        · simp only [Act.put, List.setIfInBounds_toArray, List.set_cons_zero, List.set_cons_succ, i64_w, i32_w]
          rfl
        refine done_ (by kernel_rfl) ?_
        try go_wp2
        refine bodyPost_ret (results_list (rs := [.cell 4 62, .cell 5 51, .tmp 6]) rfl (by simp) (.cell gb213 62 #[.string a0_0, .int .i64 (wrap64 (a0_1 + 1))] (0, 0) _ rfl (by (with_reducible repeat (first | apply qa5 | apply qb5 | apply qc5)); refine ql5 ?_ NB213_214.out _; (with_reducible repeat (first | apply qa5 | apply qb5 | apply qc5)); refine ql5 ?_ NB213_214.out _; (with_reducible repeat (first | apply qa5 | apply qb5 | apply qc5)); refine ql5 ?_ NB213_214.out _; (with_reducible repeat (first | apply qa5 | apply qb5 | apply qc5)); refine ql5 ?_ NB213_214.out _; (with_reducible repeat (first | apply qa5 | apply qb5 | apply qc5)); refine blk_put (cs := #[.string a0_0, .int .i64 0]) ?_ 1 _ rfl; (with_reducible repeat (first | apply qa5 | apply qb5 | apply qc5)); refine blk_put (cs := #[.string (⟨#[]⟩ : ByteArray), .int .i64 0]) ?_ 0 _ rfl; (with_reducible repeat (first | apply qa5 | apply qb5 | apply qc5)); exact BK213.out) Tryd.underlying62 rfl (by kernel_rfl) (.cell gb214 51 #[.int .i64 t216, .slice Ao41 t217.length co41, .slice Ao42 t220.length co42, .slice Ao43 t223.length co43] (0, 0) _ rfl (by (with_reducible repeat (first | apply qa5 | apply qb5 | apply qc5)); refine blk_put (cs := #[.int .i64 t216, .slice Ao41 t217.length co41, .slice Ao42 t220.length co42, .slice none 0 0]) ?_ 3 _ rfl; (with_reducible repeat (first | apply qa5 | apply qb5 | apply qc5)); refine blk_put (cs := #[.int .i64 t216, .slice Ao41 t217.length co41, .slice none 0 0, .slice none 0 0]) ?_ 2 _ rfl; (with_reducible repeat (first | apply qa5 | apply qb5 | apply qc5)); refine blk_put (cs := #[.int .i64 t216, .slice none 0 0, .slice none 0 0, .slice none 0 0]) ?_ 1 _ rfl; (with_reducible repeat (first | apply qa5 | apply qb5 | apply qc5)); refine blk_put (cs := #[.int .i64 0, .slice none 0 0, .slice none 0 0, .slice none 0 0]) ?_ 0 _ rfl; (with_reducible repeat (first | apply qa5 | apply qb5 | apply qc5)); refine ql5 ?_ NB214_213.out _; (with_reducible repeat (first | apply qa5 | apply qb5 | apply qc5)); refine ql5 ?_ NB214_213.out _; (with_reducible repeat (first | apply qa5 | apply qb5 | apply qc5)); exact BK214.out) Tryd.underlying51 rfl (by kernel_rfl) (.tmp .nil)))) rfl ?_
        exact ⟨_, _, _, by first | rfl | (simp [errW_none, errW_some] <;> rfl) | (simp [*, errW_none, errW_some] <;> rfl), by (with_reducible repeat (first | apply Kd.R_alloc | apply Kd.R_drewN | apply Kd.R_drew)); exact Kd.R_mono (Kd.R_far (p := ⟨gb214, 3, none⟩) (Kd.R_far (p := ⟨gb214, 2, none⟩) (Kd.R_far (p := ⟨gb214, 1, none⟩) (Kd.R_far (p := ⟨gb214, 0, none⟩) (Kd.R_far (p := ⟨gb213, 1, none⟩) (Kd.R_far (p := ⟨gb213, 0, none⟩) (Kd.R_types (Kd.R_types HO219.out BK213.out (by decide)) BK214.out (by decide)) (fun _ hk => hk.1.2) (.string a0_0)) (fun _ hk => hk.1.2) (.int .i64 (wrap64 (a0_1 + 1)))) (fun _ hk => hk.2) (.int .i64 t216)) (fun _ hk => hk.2) (.slice Ao41 t217.length co41)) (fun _ hk => hk.2) (.slice Ao42 t220.length co42)) (fun _ hk => hk.2) (.slice Ao43 t223.length co43)) (fun _ hk => ⟨hk.1.1.1, hk.1.1.2⟩), by (with_reducible repeat (first | apply Kd.R_alloc | apply Kd.R_drewN | apply Kd.R_drew)); exact Kd.R_mono (Kd.R_far (p := ⟨gb214, 3, none⟩) (Kd.R_far (p := ⟨gb214, 2, none⟩) (Kd.R_far (p := ⟨gb214, 1, none⟩) (Kd.R_far (p := ⟨gb214, 0, none⟩) (Kd.R_far (p := ⟨gb213, 1, none⟩) (Kd.R_far (p := ⟨gb213, 0, none⟩) (Kd.R_types (Kd.R_types HO222.out BK213.out (by decide)) BK214.out (by decide)) (fun _ hk => hk.1.2) (.string a0_0)) (fun _ hk => hk.1.2) (.int .i64 (wrap64 (a0_1 + 1)))) (fun _ hk => hk.2) (.int .i64 t216)) (fun _ hk => hk.2) (.slice Ao41 t217.length co41)) (fun _ hk => hk.2) (.slice Ao42 t220.length co42)) (fun _ hk => hk.2) (.slice Ao43 t223.length co43)) (fun _ hk => ⟨hk.1.1.1, hk.1.1.2⟩), by (with_reducible repeat (first | apply Kd.R_alloc | apply Kd.R_drewN | apply Kd.R_drew)); exact Kd.R_mono (Kd.R_far (p := ⟨gb214, 3, none⟩) (Kd.R_far (p := ⟨gb214, 2, none⟩) (Kd.R_far (p := ⟨gb214, 1, none⟩) (Kd.R_far (p := ⟨gb214, 0, none⟩) (Kd.R_far (p := ⟨gb213, 1, none⟩) (Kd.R_far (p := ⟨gb213, 0, none⟩) (Kd.R_types (Kd.R_types HO225.out BK213.out (by decide)) BK214.out (by decide)) (fun _ hk => hk.1.2) (.string a0_0)) (fun _ hk => hk.1.2) (.int .i64 (wrap64 (a0_1 + 1)))) (fun _ hk => hk.2) (.int .i64 t216)) (fun _ hk => hk.2) (.slice Ao41 t217.length co41)) (fun _ hk => hk.2) (.slice Ao42 t220.length co42)) (fun _ hk => hk.2) (.slice Ao43 t223.length co43)) (fun _ hk => ⟨hk.1.1.1, hk.1.1.2⟩), by repeat (first | (with_reducible first | exact HB.out | apply qd5 | apply qe5 | apply qf5 | refine qg5 ?_ GE212.out | refine qg5 ?_ GE213.out | refine qg5 ?_ GE214.out | refine qg5 ?_ GE226.out) | exact HB.out)⟩
    · replace c13 := Bool.eq_false_iff.mpr c13
      subst c13
      have H1 : (some ((⟨#[]⟩ : ByteArray), 0, 0, ([] : List ByteArray), ([] : List ByteArray), ([] : List ByteArray), 1)) = some (r1, r2, r3, r4, r5, r6, r7) := by rw [if_neg (show ¬ (false = true) by decide)] at H; exact H
      clear H
      have H := H1
      clear H1
      simp only [Option.some.injEq, Prod.mk.injEq] at H
      obtain ⟨rfl, rfl, rfl, rfl, rfl, rfl, rfl⟩ := H
      go_enter Tryd.func48, Tryd.ntmps48
      go_wp2_with (first | ((with_reducible refine gate_dst (N := 2) rfl ?_); refine box_event ?hg (N := 2) ?hd (cs := #[.string a0_0, .int .i64 a0_1]) (t := 62) ?hr ?_; (case hd => rfl); (case hg => rfl); (case hr => first | (go_simp; done) | (go_simp; rfl)); intro gb212 hg w53 hbox hb; have n0_ := qh5 (qj5 (by repeat (first | (with_reducible first | exact HB.out | apply qd5 | apply qe5 | apply qf5) | exact HB.out)) hb); have n1_ := qh5 (hbox); have n2_ := qh5 ((by rw [hg]; exact (qk5 (by repeat (first | (with_reducible first | exact HB.out | apply qd5 | apply qe5 | apply qf5) | exact HB.out))) : w.heap.size ≤ gb212)); have n3_ := qh5 ((by rw [hg]; exact (qk5 (by repeat (first | (with_reducible first | exact HB.out | apply qd5 | apply qe5 | apply qf5) | exact HB.out))) : w.heap.size ≤ gb212)); clear HB; have HB := n0_; have BK212 := n1_; have GW212 := n2_; have GE212 := n3_; clear n0_ n1_ n2_ n3_; clear hb hbox hg) | ((with_reducible refine gate_dst (N := 4) rfl ?_); refine box_event ?hg (N := 4) ?hd (cs := #[.string (⟨#[]⟩ : ByteArray), .int .i64 0]) (t := 62) ?hr ?_; (case hd => rfl); (case hg => rfl); (case hr => first | (go_simp; done) | (go_simp; rfl)); intro gb213 hg w54 hbox hb; have n0_ := qh5 (qi5 (g := gb212) (o := .cells #[.string a0_0, .int .i64 a0_1] 62 (0, 0)) (by (with_reducible repeat (first | apply qa5 | apply qb5 | apply qc5)); exact BK212.out) hb); have n1_ := qh5 (qj5 (by repeat (first | (with_reducible first | exact HB.out | apply qd5 | apply qe5 | apply qf5 | refine qg5 ?_ GE212.out) | exact HB.out)) hb); have n2_ := qh5 (hbox); have n3_ := qh5 ((by rw [hg]; exact (qk5 (by repeat (first | (with_reducible first | exact HB.out | apply qd5 | apply qe5 | apply qf5 | refine qg5 ?_ GE212.out) | exact HB.out))) : w.heap.size ≤ gb213)); have n4_ := qh5 ((by rw [hg]; exact (qk5 (by repeat (first | (with_reducible first | exact HB.out | apply qd5 | apply qe5 | apply qf5 | refine qg5 ?_ GE212.out) | exact HB.out))) : w.heap.size ≤ gb213)); have n5_ := qh5 ((by rw [hg]; exact Nat.ne_of_lt (blk_lt (g := gb212) (o := .cells #[.string a0_0, .int .i64 a0_1] 62 (0, 0)) (by (with_reducible repeat (first | apply qa5 | apply qb5 | apply qc5)); exact BK212.out)) : gb212 ≠ gb213)); have n6_ := qh5 ((by rw [hg]; exact Nat.ne_of_gt (blk_lt (g := gb212) (o := .cells #[.string a0_0, .int .i64 a0_1] 62 (0, 0)) (by (with_reducible repeat (first | apply qa5 | apply qb5 | apply qc5)); exact BK212.out)) : gb213 ≠ gb212)); clear BK212; clear HB; have BK212 := n0_; have HB := n1_; have BK213 := n2_; have GW213 := n3_; have GE213 := n4_; have NB212_213 := n5_; have NB213_212 := n6_; clear n0_ n1_ n2_ n3_ n4_ n5_ n6_; clear hb hbox hg) | ((with_reducible refine gate_dst (N := 5) rfl ?_); refine box_event ?hg (N := 5) ?hd (cs := #[.int .i64 0, .slice none 0 0, .slice none 0 0, .slice none 0 0]) (t := 51) ?hr ?_; (case hd => rfl); (case hg => rfl); (case hr => first | (go_simp; done) | (go_simp; rfl)); intro gb214 hg w55 hbox hb; have n0_ := qh5 (qi5 (g := gb212) (o := .cells #[.string a0_0, .int .i64 a0_1] 62 (0, 0)) (by (with_reducible repeat (first | apply qa5 | apply qb5 | apply qc5)); exact BK212.out) hb); have n1_ := qh5 (qi5 (g := gb213) (o := .cells #[.string (⟨#[]⟩ : ByteArray), .int .i64 0] 62 (0, 0)) (by (with_reducible repeat (first | apply qa5 | apply qb5 | apply qc5)); exact BK213.out) hb); have n2_ := qh5 (qj5 (by repeat (first | (with_reducible first | exact HB.out | apply qd5 | apply qe5 | apply qf5 | refine qg5 ?_ GE212.out | refine qg5 ?_ GE213.out) | exact HB.out)) hb); have n3_ := qh5 (hbox); have n4_ := qh5 ((by rw [hg]; exact (qk5 (by repeat (first | (with_reducible first | exact HB.out | apply qd5 | apply qe5 | apply qf5 | refine qg5 ?_ GE212.out | refine qg5 ?_ GE213.out) | exact HB.out))) : w.heap.size ≤ gb214)); have n5_ := qh5 ((by rw [hg]; exact (qk5 (by repeat (first | (with_reducible first | exact HB.out | apply qd5 | apply qe5 | apply qf5 | refine qg5 ?_ GE212.out | refine qg5 ?_ GE213.out) | exact HB.out))) : w.heap.size ≤ gb214)); have n6_ := qh5 ((by rw [hg]; exact Nat.ne_of_lt (blk_lt (g := gb212) (o := .cells #[.string a0_0, .int .i64 a0_1] 62 (0, 0)) (by (with_reducible repeat (first | apply qa5 | apply qb5 | apply qc5)); exact BK212.out)) : gb212 ≠ gb214)); have n7_ := qh5 ((by rw [hg]; exact Nat.ne_of_gt (blk_lt (g := gb212) (o := .cells #[.string a0_0, .int .i64 a0_1] 62 (0, 0)) (by (with_reducible repeat (first | apply qa5 | apply qb5 | apply qc5)); exact BK212.out)) : gb214 ≠ gb212)); have n8_ := qh5 ((by rw [hg]; exact Nat.ne_of_lt (blk_lt (g := gb213) (o := .cells #[.string (⟨#[]⟩ : ByteArray), .int .i64 0] 62 (0, 0)) (by (with_reducible repeat (first | apply qa5 | apply qb5 | apply qc5)); exact BK213.out)) : gb213 ≠ gb214)); have n9_ := qh5 ((by rw [hg]; exact Nat.ne_of_gt (blk_lt (g := gb213) (o := .cells #[.string (⟨#[]⟩ : ByteArray), .int .i64 0] 62 (0, 0)) (by (with_reducible repeat (first | apply qa5 | apply qb5 | apply qc5)); exact BK213.out)) : gb214 ≠ gb213)); clear BK212; clear BK213; clear HB; have BK212 := n0_; have BK213 := n1_; have HB := n2_; have BK214 := n3_; have GW214 := n4_; have GE214 := n5_; have NB212_214 := n6_; have NB214_212 := n7_; have NB213_214 := n8_; have NB214_213 := n9_; clear n0_ n1_ n2_ n3_ n4_ n5_ n6_ n7_ n8_ n9_; clear hb hbox hg; have hnb56 := NB212_213.out; have hnc56 := NB213_212.out; have hnb57 := NB212_214.out; have hnc57 := NB214_212.out; have hcz58_0 : w55.cell? ⟨gb212, 0, none⟩ = some (.string a0_0) := (blk_cell BK212.out 0).trans rfl; have hcz58_1 : w55.cell? ⟨gb212, 1, none⟩ = some (.int .i64 a0_1) := (blk_cell BK212.out 1).trans rfl; have hfz58_0 := blk_frozen BK212.out 0; have hfz58_1 := blk_frozen BK212.out 1) | ((with_reducible refine gate_callee (f := 93) rfl ?_); refine goesL_ (some 14) rfl rfl Tryd.func93 (by kernel_rfl) rfl #[.agg #[.string a0_0, .int .i64 a0_1]] rfl (by (try simp only [List.map_toArray, List.map_cons, List.map_nil]); first | done | rfl | (simp only [List.length_drop, List.length_take]; rfl)) ?_; (with_reducible refine (spec_KeyChainOK.calls a0_0 a0_1 false _ A12.out).mono ?_); rintro e w59 ⟨rfl, hb⟩; refine ⟨_, rfl, ?_⟩; have n0_ := qh5 (qi5 (g := gb212) (o := .cells #[.string a0_0, .int .i64 a0_1] 62 (0, 0)) (by (with_reducible repeat (first | apply qa5 | apply qb5 | apply qc5)); exact BK212.out) hb); have n1_ := qh5 (qi5 (g := gb213) (o := .cells #[.string (⟨#[]⟩ : ByteArray), .int .i64 0] 62 (0, 0)) (by (with_reducible repeat (first | apply qa5 | apply qb5 | apply qc5)); exact BK213.out) hb); have n2_ := qh5 (qi5 (g := gb214) (o := .cells #[.int .i64 0, .slice none 0 0, .slice none 0 0, .slice none 0 0] 51 (0, 0)) (by (with_reducible repeat (first | apply qa5 | apply qb5 | apply qc5)); exact BK214.out) hb); have n3_ := qh5 (qj5 (by repeat (first | (with_reducible first | exact HB.out | apply qd5 | apply qe5 | apply qf5 | refine qg5 ?_ GE212.out | refine qg5 ?_ GE213.out | refine qg5 ?_ GE214.out) | exact HB.out)) hb); clear BK212; clear BK213; clear BK214; clear HB; have BK212 := n0_; have BK213 := n1_; have BK214 := n2_; have HB := n3_; clear n0_ n1_ n2_ n3_; (try clear hb); (try clear hb2); (try clear hk); (try clear hi); have hnb60 := NB213_214.out; have hnc60 := NB214_213.out; have hcz61_0 : w59.cell? ⟨gb213, 0, none⟩ = some (.string (⟨#[]⟩ : ByteArray)) := (blk_cell BK213.out 0).trans rfl; have hcz61_1 : w59.cell? ⟨gb213, 1, none⟩ = some (.int .i64 0) := (blk_cell BK213.out 1).trans rfl; have hfz61_0 := blk_frozen BK213.out 0; have hfz61_1 := blk_frozen BK213.out 1; have hcz62_0 : w59.cell? ⟨gb214, 0, none⟩ = some (.int .i64 0) := (blk_cell BK214.out 0).trans rfl; have hcz62_1 : w59.cell? ⟨gb214, 1, none⟩ = some (.slice none 0 0) := (blk_cell BK214.out 1).trans rfl; have hcz62_2 : w59.cell? ⟨gb214, 2, none⟩ = some (.slice none 0 0) := (blk_cell BK214.out 2).trans rfl; have hcz62_3 : w59.cell? ⟨gb214, 3, none⟩ = some (.slice none 0 0) := (blk_cell BK214.out 3).trans rfl; have hfz62_0 := blk_frozen BK214.out 0; have hfz62_1 := blk_frozen BK214.out 1; have hfz62_2 := blk_frozen BK214.out 2; have hfz62_3 := blk_frozen BK214.out 3))
      refine bodyPost_ret (results_list (rs := [.cell 4 62, .cell 5 51, .tmp 6]) rfl (by simp) (.cell gb213 62 #[.string (⟨#[]⟩ : ByteArray), .int .i64 0] (0, 0) _ rfl (by (with_reducible repeat (first | apply qa5 | apply qb5 | apply qc5)); refine ql5 ?_ NB213_214.out _; (with_reducible repeat (first | apply qa5 | apply qb5 | apply qc5)); refine ql5 ?_ NB213_214.out _; (with_reducible repeat (first | apply qa5 | apply qb5 | apply qc5)); refine ql5 ?_ NB213_214.out _; (with_reducible repeat (first | apply qa5 | apply qb5 | apply qc5)); refine ql5 ?_ NB213_214.out _; (with_reducible repeat (first | apply qa5 | apply qb5 | apply qc5)); refine blk_put (cs := #[.string (⟨#[]⟩ : ByteArray), .int .i64 0]) ?_ 1 _ rfl; (with_reducible repeat (first | apply qa5 | apply qb5 | apply qc5)); refine blk_put (cs := #[.string (⟨#[]⟩ : ByteArray), .int .i64 0]) ?_ 0 _ rfl; (with_reducible repeat (first | apply qa5 | apply qb5 | apply qc5)); exact BK213.out) Tryd.underlying62 rfl (by kernel_rfl) (.cell gb214 51 #[.int .i64 0, .slice none 0 0, .slice none 0 0, .slice none 0 0] (0, 0) _ rfl (by (with_reducible repeat (first | apply qa5 | apply qb5 | apply qc5)); refine blk_put (cs := #[.int .i64 0, .slice none 0 0, .slice none 0 0, .slice none 0 0]) ?_ 3 _ rfl; (with_reducible repeat (first | apply qa5 | apply qb5 | apply qc5)); refine blk_put (cs := #[.int .i64 0, .slice none 0 0, .slice none 0 0, .slice none 0 0]) ?_ 2 _ rfl; (with_reducible repeat (first | apply qa5 | apply qb5 | apply qc5)); refine blk_put (cs := #[.int .i64 0, .slice none 0 0, .slice none 0 0, .slice none 0 0]) ?_ 1 _ rfl; (with_reducible repeat (first | apply qa5 | apply qb5 | apply qc5)); refine blk_put (cs := #[.int .i64 0, .slice none 0 0, .slice none 0 0, .slice none 0 0]) ?_ 0 _ rfl; (with_reducible repeat (first | apply qa5 | apply qb5 | apply qc5)); refine ql5 ?_ NB214_213.out _; (with_reducible repeat (first | apply qa5 | apply qb5 | apply qc5)); refine ql5 ?_ NB214_213.out _; (with_reducible repeat (first | apply qa5 | apply qb5 | apply qc5)); exact BK214.out) Tryd.underlying51 rfl (by kernel_rfl) (.tmp .nil)))) rfl ?_
      exact ⟨_, _, _, by first | rfl | (simp [errW_none, errW_some] <;> rfl) | (simp [*, errW_none, errW_some] <;> rfl), by first | exact Kd.R_nil _ _ _ _ _ | exact Kd.N_nil _ _ _ _ _ | exact Kd.V_nil _ _ _ _ _ | exact Kd.Q_nil _ _ _ _ _ | exact Kd.S_nil _ _ _ _ _, by first | exact Kd.R_nil _ _ _ _ _ | exact Kd.N_nil _ _ _ _ _ | exact Kd.V_nil _ _ _ _ _ | exact Kd.Q_nil _ _ _ _ _ | exact Kd.S_nil _ _ _ _ _, by first | exact Kd.R_nil _ _ _ _ _ | exact Kd.N_nil _ _ _ _ _ | exact Kd.V_nil _ _ _ _ _ | exact Kd.Q_nil _ _ _ _ _ | exact Kd.S_nil _ _ _ _ _, by repeat (first | (with_reducible first | exact HB.out | apply qd5 | apply qe5 | apply qf5 | refine qg5 ?_ GE212.out | refine qg5 ?_ GE213.out | refine qg5 ?_ GE214.out) | exact HB.out)⟩

/-! ### laws_toKeyChain: function 49 -/
def laws_toKeyChain.f (a0_0 : ByteArray) (a0_1 : Int) : Option (ByteArray × Int) := some (a0_0, a0_1)
set_option maxHeartbeats 8000000 in
set_option maxRecDepth 100000 in
theorem laws_toKeyChain.calls (a0_0 : ByteArray) (a0_1 : Int) (r1 : ByteArray) (r2 : Int) (w : World) (h : laws_toKeyChain.f a0_0 a0_1 = some (r1, r2)) :
    Calls Tryd.prog 49 #[.agg #[.string a0_0, .int .i64 a0_1]] w fun e w' => e = .returned (.agg #[.string r1, .int .i64 r2]) ∧ Below w.heap.size w w' := by
  have hu60 := Tryd.underlying60
  have hu62 := Tryd.underlying62
  have HB := qh5 (Below.refl w.heap.size w)
  have H : (some (a0_0, a0_1)) = some (r1, r2) := h
  clear h
  simp only [Option.some.injEq, Prod.mk.injEq] at H
  obtain ⟨rfl, rfl⟩ := H
  go_enter Tryd.func49, Tryd.ntmps49
  go_wp2_with (first | ((with_reducible refine gate_dst (N := 1) rfl ?_); refine box_event ?hg (N := 1) ?hd (cs := #[.string a0_0, .int .i64 a0_1]) (t := 60) ?hr ?_; (case hd => rfl); (case hg => rfl); (case hr => first | (go_simp; done) | (go_simp; rfl)); intro gb227 hg w2 hbox hb; have n0_ := qh5 (qj5 (by repeat (first | (with_reducible first | exact HB.out | apply qd5 | apply qe5 | apply qf5) | exact HB.out)) hb); have n1_ := qh5 (hbox); have n2_ := qh5 ((by rw [hg]; exact (qk5 (by repeat (first | (with_reducible first | exact HB.out | apply qd5 | apply qe5 | apply qf5) | exact HB.out))) : w.heap.size ≤ gb227)); have n3_ := qh5 ((by rw [hg]; exact (qk5 (by repeat (first | (with_reducible first | exact HB.out | apply qd5 | apply qe5 | apply qf5) | exact HB.out))) : w.heap.size ≤ gb227)); clear HB; have HB := n0_; have BK227 := n1_; have GW227 := n2_; have GE227 := n3_; clear n0_ n1_ n2_ n3_; clear hb hbox hg) | ((with_reducible refine gate_dst (N := 2) rfl ?_); refine box_event ?hg (N := 2) ?hd (cs := #[.string (⟨#[]⟩ : ByteArray), .int .i64 0]) (t := 62) ?hr ?_; (case hd => rfl); (case hg => rfl); (case hr => first | (go_simp; done) | (go_simp; rfl)); intro gb228 hg w3 hbox hb; have n0_ := qh5 (qi5 (g := gb227) (o := .cells #[.string a0_0, .int .i64 a0_1] 60 (0, 0)) (by (with_reducible repeat (first | apply qa5 | apply qb5 | apply qc5)); exact BK227.out) hb); have n1_ := qh5 (qj5 (by repeat (first | (with_reducible first | exact HB.out | apply qd5 | apply qe5 | apply qf5 | refine qg5 ?_ GE227.out) | exact HB.out)) hb); have n2_ := qh5 (hbox); have n3_ := qh5 ((by rw [hg]; exact (qk5 (by repeat (first | (with_reducible first | exact HB.out | apply qd5 | apply qe5 | apply qf5 | refine qg5 ?_ GE227.out) | exact HB.out))) : w.heap.size ≤ gb228)); have n4_ := qh5 ((by rw [hg]; exact (qk5 (by repeat (first | (with_reducible first | exact HB.out | apply qd5 | apply qe5 | apply qf5 | refine qg5 ?_ GE227.out) | exact HB.out))) : w.heap.size ≤ gb228)); have n5_ := qh5 ((by rw [hg]; exact Nat.ne_of_lt (blk_lt (g := gb227) (o := .cells #[.string a0_0, .int .i64 a0_1] 60 (0, 0)) (by (with_reducible repeat (first | apply qa5 | apply qb5 | apply qc5)); exact BK227.out)) : gb227 ≠ gb228)); have n6_ := qh5 ((by rw [hg]; exact Nat.ne_of_gt (blk_lt (g := gb227) (o := .cells #[.string a0_0, .int .i64 a0_1] 60 (0, 0)) (by (with_reducible repeat (first | apply qa5 | apply qb5 | apply qc5)); exact BK227.out)) : gb228 ≠ gb227)); clear BK227; clear HB; have BK227 := n0_; have HB := n1_; have BK228 := n2_; have GW228 := n3_; have GE228 := n4_; have NB227_228 := n5_; have NB228_227 := n6_; clear n0_ n1_ n2_ n3_ n4_ n5_ n6_; clear hb hbox hg) | ((with_reducible refine gate_dst (N := 3) rfl ?_); refine box_event ?hg (N := 3) ?hd (cs := #[.string (⟨#[]⟩ : ByteArray), .int .i64 0]) (t := 62) ?hr ?_; (case hd => rfl); (case hg => rfl); (case hr => first | (go_simp; done) | (go_simp; rfl)); intro gb229 hg w4 hbox hb; have n0_ := qh5 (qi5 (g := gb227) (o := .cells #[.string a0_0, .int .i64 a0_1] 60 (0, 0)) (by (with_reducible repeat (first | apply qa5 | apply qb5 | apply qc5)); exact BK227.out) hb); have n1_ := qh5 (qi5 (g := gb228) (o := .cells #[.string (⟨#[]⟩ : ByteArray), .int .i64 0] 62 (0, 0)) (by (with_reducible repeat (first | apply qa5 | apply qb5 | apply qc5)); exact BK228.out) hb); have n2_ := qh5 (qj5 (by repeat (first | (with_reducible first | exact HB.out | apply qd5 | apply qe5 | apply qf5 | refine qg5 ?_ GE227.out | refine qg5 ?_ GE228.out) | exact HB.out)) hb); have n3_ := qh5 (hbox); have n4_ := qh5 ((by rw [hg]; exact (qk5 (by repeat (first | (with_reducible first | exact HB.out | apply qd5 | apply qe5 | apply qf5 | refine qg5 ?_ GE227.out | refine qg5 ?_ GE228.out) | exact HB.out))) : w.heap.size ≤ gb229)); have n5_ := qh5 ((by rw [hg]; exact (qk5 (by repeat (first | (with_reducible first | exact HB.out | apply qd5 | apply qe5 | apply qf5 | refine qg5 ?_ GE227.out | refine qg5 ?_ GE228.out) | exact HB.out))) : w.heap.size ≤ gb229)); have n6_ := qh5 ((by rw [hg]; exact Nat.ne_of_lt (blk_lt (g := gb227) (o := .cells #[.string a0_0, .int .i64 a0_1] 60 (0, 0)) (by (with_reducible repeat (first | apply qa5 | apply qb5 | apply qc5)); exact BK227.out)) : gb227 ≠ gb229)); have n7_ := qh5 ((by rw [hg]; exact Nat.ne_of_gt (blk_lt (g := gb227) (o := .cells #[.string a0_0, .int .i64 a0_1] 60 (0, 0)) (by (with_reducible repeat (first | apply qa5 | apply qb5 | apply qc5)); exact BK227.out)) : gb229 ≠ gb227)); have n8_ := qh5 ((by rw [hg]; exact Nat.ne_of_lt (blk_lt (g := gb228) (o := .cells #[.string (⟨#[]⟩ : ByteArray), .int .i64 0] 62 (0, 0)) (by (with_reducible repeat (first | apply qa5 | apply qb5 | apply qc5)); exact BK228.out)) : gb228 ≠ gb229)); have n9_ := qh5 ((by rw [hg]; exact Nat.ne_of_gt (blk_lt (g := gb228) (o := .cells #[.string (⟨#[]⟩ : ByteArray), .int .i64 0] 62 (0, 0)) (by (with_reducible repeat (first | apply qa5 | apply qb5 | apply qc5)); exact BK228.out)) : gb229 ≠ gb228)); clear BK227; clear BK228; clear HB; have BK227 := n0_; have BK228 := n1_; have HB := n2_; have BK229 := n3_; have GW229 := n4_; have GE229 := n5_; have NB227_229 := n6_; have NB229_227 := n7_; have NB228_229 := n8_; have NB229_228 := n9_; clear n0_ n1_ n2_ n3_ n4_ n5_ n6_ n7_ n8_ n9_; clear hb hbox hg; have hnb5 := NB227_228.out; have hnc5 := NB228_227.out; have hnb6 := NB227_229.out; have hnc6 := NB229_227.out; have hcz7_0 : w4.cell? ⟨gb227, 0, none⟩ = some (.string a0_0) := (blk_cell BK227.out 0).trans rfl; have hcz7_1 : w4.cell? ⟨gb227, 1, none⟩ = some (.int .i64 a0_1) := (blk_cell BK227.out 1).trans rfl; have hfz7_0 := blk_frozen BK227.out 0; have hfz7_1 := blk_frozen BK227.out 1; have hnb8 := NB229_228.out; have hnc8 := NB228_229.out; have hcz9_0 : w4.cell? ⟨gb229, 0, none⟩ = some (.string (⟨#[]⟩ : ByteArray)) := (blk_cell BK229.out 0).trans rfl; have hcz9_1 : w4.cell? ⟨gb229, 1, none⟩ = some (.int .i64 0) := (blk_cell BK229.out 1).trans rfl; have hfz9_0 := blk_frozen BK229.out 0; have hfz9_1 := blk_frozen BK229.out 1; have hcz10_0 : w4.cell? ⟨gb228, 0, none⟩ = some (.string (⟨#[]⟩ : ByteArray)) := (blk_cell BK228.out 0).trans rfl; have hcz10_1 : w4.cell? ⟨gb228, 1, none⟩ = some (.int .i64 0) := (blk_cell BK228.out 1).trans rfl; have hfz10_0 := blk_frozen BK228.out 0; have hfz10_1 := blk_frozen BK228.out 1))
  refine bodyPost_ret (results_cell_row rfl _ _ gb228 62 #[.string a0_0, .int .i64 a0_1] (0, 0) _ rfl (by (with_reducible repeat (first | apply qa5 | apply qb5 | apply qc5)); refine blk_put (cs := #[.string a0_0, .int .i64 0]) ?_ 1 _ rfl; (with_reducible repeat (first | apply qa5 | apply qb5 | apply qc5)); refine blk_put (cs := #[.string (⟨#[]⟩ : ByteArray), .int .i64 0]) ?_ 0 _ rfl; (with_reducible repeat (first | apply qa5 | apply qb5 | apply qc5)); refine ql5 ?_ NB228_229.out _; (with_reducible repeat (first | apply qa5 | apply qb5 | apply qc5)); refine ql5 ?_ NB228_229.out _; (with_reducible repeat (first | apply qa5 | apply qb5 | apply qc5)); exact BK228.out) Tryd.underlying62 rfl (by kernel_rfl)) rfl ?_
  exact ⟨by first | rfl | (simp [errW_none, errW_some] <;> rfl) | (simp [*, errW_none, errW_some] <;> rfl), by repeat (first | (with_reducible first | exact HB.out | apply qd5 | apply qe5 | apply qf5 | refine qg5 ?_ GE227.out | refine qg5 ?_ GE228.out | refine qg5 ?_ GE229.out) | exact HB.out)⟩

/-! ### impl_hash: function 53, given -/
def impl_hash.f (t : ByteArray) : Option ByteArray := if t.size ≤ 1099511627776 then some (Go.Proofs.YtgknilganicofaaDoor.Sha.sha t) else none
theorem impl_hash.calls (t r : ByteArray) (w : World) (hG_ : Go.Proofs.YtgknilganicofaaDoor.Sha.GlobA w) (h : impl_hash.f t = some r) : Calls Tryd.prog 53 #[.string t] w fun e w' => e = .returned (.string r) ∧ Below w.heap.size w w' := by
  have hs : t.size ≤ 1099511627776 := by
    rcases Nat.lt_or_ge 1099511627776 t.size with hl | hl
    · rw [impl_hash.f, if_neg (by omega)] at h; cases h
    · exact hl
  rw [impl_hash.f, if_pos hs] at h
  injection h with h
  subst h
  exact Go.Proofs.YtgknilganicofaaDoor.Sha.hash_calls t w hG_ hs


/-! ### impl_hashBits: function 98 -/
mutual
def impl_hashBits.l0 : Nat → ByteArray → List Int → Int → Int → Option (ByteArray)
  | 0, _, _, _, _ => none
  | k + 1, x0, x3, x11, x12 => if x12 < x11 then (impl_hashBits.l1 k x0 x3 x12 7 x11 x12) else (some (strOfNums x3))
def impl_hashBits.l1 : Nat → ByteArray → List Int → Int → Int → Int → Int → Option (ByteArray)
  | 0, _, _, _, _, _, _ => none
  | k + 1, x0, x3, x4, x5, x11, x12 => if x5 ≥ 0 then (if 0 ≤ x4 then (if x4 < (x0.size : Int) then (if 0 ≤ x5 then (if x3.length < 140737488355328 then (impl_hashBits.l1 k x0 (x3 ++ [(48 + (Go.bits .and .u8 (shr .u8 (bt x0 x4) x5) 1)) % 256]) x4 (wrap64 (x5 - 1)) x11 x12) else (none)) else (none)) else (none)) else (none)) else (impl_hashBits.l0 k x0 x3 x11 (wrap64 (x12 + 1)))
end
def impl_hashBits.f (k : Nat) (a0 : ByteArray) : Option (ByteArray) := if 0 ≤ (wrap64 (8 * (a0.size : Int))) then (if (wrap64 (8 * (a0.size : Int)) : Int).toNat ≤ 281474976710656 then (impl_hashBits.l0 k a0 (([] : List Int)) (a0.size : Int) 0) else (none)) else (none)
theorem impl_hashBits.mono_l : ∀ k, (∀ y0 y1 y2 y3, LeO (impl_hashBits.l0 k y0 y1 y2 y3) (impl_hashBits.l0 (k + 1) y0 y1 y2 y3)) ∧ (∀ y0 y1 y2 y3 y4 y5, LeO (impl_hashBits.l1 k y0 y1 y2 y3 y4 y5) (impl_hashBits.l1 (k + 1) y0 y1 y2 y3 y4 y5))
  | 0 => ⟨fun _ _ _ _ r h => by simp [impl_hashBits.l0] at h, fun _ _ _ _ _ _ r h => by simp [impl_hashBits.l1] at h⟩
  | k + 1 => by
    obtain ⟨ih0, ih1⟩ := impl_hashBits.mono_l k
    refine ⟨?_, ?_⟩
    · intro y0 y1 y2 y3
      unfold impl_hashBits.l0
      repeat' first
      | (with_reducible exact ih0 _ _ _ _)
      | (with_reducible exact ih1 _ _ _ _ _ _)
      | (with_reducible exact LeO.refl _)
      | (with_reducible exact LeO.none _)
      | (with_reducible refine LeO.ite ?_ ?_)
      | (with_reducible refine LeO.bind ?_ (fun _ => ?_))
      | exact ih0 _ _ _ _
      | exact ih1 _ _ _ _ _ _
      | exact LeO.none _
      | refine LeO.ite ?_ ?_
      | refine LeO.bind ?_ (fun _ => ?_)
    · intro y0 y1 y2 y3 y4 y5
      unfold impl_hashBits.l1
      repeat' first
      | (with_reducible exact ih0 _ _ _ _)
      | (with_reducible exact ih1 _ _ _ _ _ _)
      | (with_reducible exact LeO.refl _)
      | (with_reducible exact LeO.none _)
      | (with_reducible refine LeO.ite ?_ ?_)
      | (with_reducible refine LeO.bind ?_ (fun _ => ?_))
      | exact ih0 _ _ _ _
      | exact ih1 _ _ _ _ _ _
      | exact LeO.none _
      | refine LeO.ite ?_ ?_
      | refine LeO.bind ?_ (fun _ => ?_)
theorem impl_hashBits.mono : ∀ a0 k, LeO (impl_hashBits.f k a0) (impl_hashBits.f (k + 1) a0) := by
  intro a0 k
  obtain ⟨ih0, ih1⟩ := impl_hashBits.mono_l k
  unfold impl_hashBits.f
  repeat' first
      | (with_reducible exact ih0 _ _ _ _)
      | (with_reducible exact ih1 _ _ _ _ _ _)
      | (with_reducible exact LeO.refl _)
      | (with_reducible exact LeO.none _)
      | (with_reducible refine LeO.ite ?_ ?_)
      | (with_reducible refine LeO.bind ?_ (fun _ => ?_))
      | exact ih0 _ _ _ _
      | exact ih1 _ _ _ _ _ _
      | exact LeO.none _
      | refine LeO.ite ?_ ?_
      | refine LeO.bind ?_ (fun _ => ?_)
set_option maxHeartbeats 8000000 in
set_option maxRecDepth 100000 in
theorem impl_hashBits.calls (k : Nat) (a0 : ByteArray) (r : ByteArray) (w : World) (h : impl_hashBits.f k a0 = some r) :
    Calls Tryd.prog 98 #[.string a0] w fun e w' => e = .returned (.string r) ∧ Below w.heap.size w w' := by
  have HB := qh5 (Below.refl w.heap.size w)
  have H : (if 0 ≤ (wrap64 (8 * (a0.size : Int))) then (if (wrap64 (8 * (a0.size : Int)) : Int).toNat ≤ 281474976710656 then (impl_hashBits.l0 k a0 (([] : List Int)) (a0.size : Int) 0) else (none)) else (none)) = some r := h
  clear h
  obtain ⟨ji2, hji2⟩ : ∃ j_ : Int, (wrap64 (8 * (a0.size : Int))) = j_ := ⟨_, rfl⟩
  replace H : (if 0 ≤ (ji2) then (if (ji2 : Int).toNat ≤ 281474976710656 then (impl_hashBits.l0 k a0 (([] : List Int)) (a0.size : Int) 0) else (none)) else (none)) = some r := by first | (rw [hji2] at H; exact H) | (simp only [hji2] at H ⊢; exact H)
  have hji2w : (IntKind.i64.wrap (8 * (a0.size : Int))) = ji2 := (i64_w _).trans hji2
  by_cases c3 : 0 ≤ (ji2)
  · rw [if_pos c3] at H
    have c3b0 := eq_true c3
    have c3b1 : decide (0 ≤ (ji2)) = true := decide_eq_true c3
    clear c3
    by_cases c4 : (ji2 : Int).toNat ≤ 281474976710656
    · rw [if_pos c4] at H
      have c4b0 := eq_true c4
      have c4b1 : decide ((ji2 : Int).toNat ≤ 281474976710656) = true := decide_eq_true c4
      clear c4
      obtain ⟨y230, hy230⟩ : ∃ y_ : List Int, y_ = (([] : List Int)) := ⟨_, rfl⟩
      replace H : (impl_hashBits.l0 k a0 y230 (a0.size : Int) 0) = some r := by first | (rw [hy230]; with_reducible exact H) | (have H2_ := (Option.bind_some _ _).symm.trans H; rw [hy230]; with_reducible exact H2_) | (have H2_ := (Option.bind_some _ _).symm.trans H; with_reducible exact H2_) | with_reducible exact H | (rw [hy230]; exact H) | exact H
      have Ny230 := qh5 hy230
      clear hy230
      have H' := qh5 H
      clear H
      go_enter Tryd.func98, Tryd.ntmps98
      go_wp2_with (first | ((with_reducible refine gate_dst (N := 9) rfl ?_); refine R_makecap (Kd.int .u8) _ 5 rfl (N := 9) rfl 22 _ _ rfl ji2 rfl rfl Tryd.underlying22 (.int .u8 0) 1 info5 (by decide) (ok := fun _ => True) trivial (of_decide_eq_true (by first | (with_reducible assumption) | assumption)) (Nat.le_trans (Nat.mul_le_mul_right _ (of_decide_eq_true (by first | (with_reducible assumption) | assumption) : ji2.toNat ≤ 281474976710656)) (by omega)) (Below.refl _ _) (Nat.le_refl _) ?_; intro v231 w5 ho6 hb hg_ hnew_; clear hg_ hnew_; (first | rw [← Ny230.out] at ho6 | (simp only [Int.reduceToNat] at ho6; rw [← Ny230.out] at ho6)); have n0_ := qh5 (Kd.R_lower ho6 (qk5 (by repeat (first | (with_reducible first | exact HB.out | apply qd5 | apply qe5 | apply qf5) | exact HB.out)))); have n1_ := qh5 (qj5 (by repeat (first | (with_reducible first | exact HB.out | apply qd5 | apply qe5 | apply qf5) | exact HB.out)) hb); clear HB; have HO232 := n0_; have HB := n1_; clear n0_ n1_; clear hb ho6))
      go_loopg [3, 12] k (fun kq v3 v12 w' => ∃ (x3_1 : List Int) (x12_1 : Int), v12 = .int .i64 x12_1 ∧ Aside0 (impl_hashBits.l0 kq a0 x3_1 (a0.size : Int) x12_1 = some r) ∧ Aside0 (kq ≤ k) ∧ Aside0 (Kd.R (Kd.int .u8) 5 w' w.heap.size (fun _ => True) v3 x3_1) ∧ Aside0 (Below w.heap.size w w'))
      case atStart => exact ⟨(y230), (0), (by first | rfl | (simp; done) | (simp [*]; done)), H', ⟨Nat.le_refl _⟩, ⟨by (with_reducible repeat (first | apply Kd.R_alloc | apply Kd.R_drewN | apply Kd.R_drew)); exact HO232.out⟩, ⟨by repeat (first | (with_reducible first | exact HB.out | apply qd5 | apply qe5 | apply qf5) | exact HB.out)⟩⟩
      case round =>
        clear H'
        try clear p2
        try clear c3
        try clear c3b0
        try clear c3b1
        try clear c4
        try clear c4b0
        try clear c4b1
        try clear p6
        obtain ⟨x3_1, x12_1, rfl, HA, HK1, HO_3, HB⟩ := hrel
        cases gk with
        | zero => exact absurd HA.out (by simp [impl_hashBits.l0])
        | succ k1 =>
          have H := HA.out
          clear HA
          simp only [impl_hashBits.l0] at H
          by_cases c7 : x12_1 < (a0.size : Int)
          · rw [if_pos c7] at H
            have c7b0 : decide (x12_1 < (a0.size : Int)) = true := decide_eq_true c7
            clear c7
            have H' := qh5 H
            clear H
            go_wp2
            go_loopg [3, 5] k1 (fun kq v3 v5 w' => ∃ (x3_2 : List Int) (x5_2 : Int), v5 = .int .i64 x5_2 ∧ Aside0 (impl_hashBits.l1 kq a0 x3_2 x12_1 x5_2 (a0.size : Int) x12_1 = some r) ∧ Aside0 (kq ≤ k1) ∧ Aside0 (Kd.R (Kd.int .u8) 5 w' w.heap.size (fun _ => True) v3 x3_2) ∧ Aside0 (Below w.heap.size w w'))
            case atStart => exact ⟨(x3_1), (7), (by first | rfl | (simp; done) | (simp [*]; done)), H', ⟨Nat.le_refl _⟩, ⟨by (with_reducible repeat (first | apply Kd.R_alloc | apply Kd.R_drewN | apply Kd.R_drew)); exact HO_3.out⟩, ⟨by repeat (first | (with_reducible first | exact HB.out | apply qd5 | apply qe5 | apply qf5) | exact HB.out)⟩⟩
            case round =>
              clear H'
              try clear p2
              try clear c3
              try clear c3b0
              try clear c3b1
              try clear c4
              try clear c4b0
              try clear c4b1
              try clear p6
              try clear c7
              try clear c7b0
              try clear p2
              try clear p6
              obtain ⟨x3_2, x5_2, rfl, HA, HK2, HO_3, HB⟩ := hrel
              cases gk with
              | zero => exact absurd HA.out (by simp [impl_hashBits.l1])
              | succ k2 =>
                have H := HA.out
                clear HA
                simp only [impl_hashBits.l1] at H
                by_cases c8 : x5_2 ≥ 0
                · rw [if_pos c8] at H
                  have c8b0 : decide (0 ≤ x5_2) = true := decide_eq_true c8
                  clear c8
                  by_cases c9 : 0 ≤ x12_1
                  · rw [if_pos c9] at H
                    have c9b0 : decide (0 ≤ x12_1) = true := decide_eq_true c9
                    clear c9
                    by_cases c10 : x12_1 < (a0.size : Int)
                    · rw [if_pos c10] at H
                      have c10b0 : decide (x12_1 < (a0.size : Int)) = true := decide_eq_true c10
                      clear c10
                      by_cases c12 : 0 ≤ x5_2
                      · rw [if_pos c12] at H
                        have c12b0 := eq_true c12
                        have c12b1 : decide (0 ≤ x5_2) = true := decide_eq_true c12
                        clear c12
                        obtain ⟨ji13, hji13⟩ : ∃ j_ : Int, (shr .u8 (bt a0 x12_1) x5_2) = j_ := ⟨_, rfl⟩
                        replace H : (if x3_2.length < 140737488355328 then (impl_hashBits.l1 k2 a0 (x3_2 ++ [(48 + (Go.bits .and .u8 (ji13) 1)) % 256]) x12_1 (wrap64 (x5_2 - 1)) (a0.size : Int) x12_1) else (none)) = some r := by first | (rw [hji13] at H; exact H) | (simp only [hji13] at H ⊢; exact H)
                        have hji13_ : ((bt a0 x12_1) / 2 ^ min x5_2.toNat 8) = ji13 := hji13
                        have hji13z : x5_2 ≤ 8 → ((bt a0 x12_1) / 2 ^ x5_2.toNat) = ji13 := shr_small hji13
                        by_cases c14 : x3_2.length < 140737488355328
                        · rw [if_pos c14] at H
                          have LMc14 := qh5 c14
                          clear c14
                          obtain ⟨y233, hy233⟩ : ∃ y_ : List Int, y_ = (x3_2 ++ [(48 + (Go.bits .and .u8 (ji13) 1)) % 256]) := ⟨_, rfl⟩
                          replace H : (impl_hashBits.l1 k2 a0 y233 x12_1 (wrap64 (x5_2 - 1)) (a0.size : Int) x12_1) = some r := by first | (rw [hy233]; with_reducible exact H) | (have H2_ := (Option.bind_some _ _).symm.trans H; rw [hy233]; with_reducible exact H2_) | (have H2_ := (Option.bind_some _ _).symm.trans H; with_reducible exact H2_) | with_reducible exact H | (rw [hy233]; exact H) | exact H
                          have Ny233 := qh5 hy233
                          clear hy233
                          have H' := qh5 H
                          clear H
                          have p11 : 0 ≤ (x12_1 : Int) := of_decide_eq_true (by first | (with_reducible assumption) | assumption)
                          have q11 : x12_1 < (a0.size : Int) := of_decide_eq_true (by first | (with_reducible assumption) | assumption)
                          have hx11 := bt_at a0 x12_1
                          have bl11 := (bt_range a0 x12_1).1
                          have bh11 := (bt_range a0 x12_1).2
                          replace p11 := eq_true p11
                          replace q11 := eq_true q11
                          go_wp2_with (first | ((with_reducible refine gate_builtin (b := .append) (xs := #[.tmp 19, .tmp 27]) rfl ?_); at_builtin; refine Kd.R_append (Kd.int .u8) (w0 := w) w.heap.size rfl (.tmp 19) (.tmp 27) 22 5 (.int .u8 0) 1 rfl Tryd.underlying22 info5 rfl (by decide) (by omega) u3 x3_2 ((48 + (Go.bits .and .u8 (ji13) 1)) % 256) [.int .u8 ((48 + (Go.bits .and .u8 (ji13) 1)) % 256)] (fun _ => True) (fun _ => False) rfl rfl ?aP (fun _ hk => hk.elim) ?aF ?aO ?aB ?aS ?aL ?_; (case aP => exact rfl); (case aB => exact (by repeat (first | (with_reducible first | exact HB.out | apply qd5 | apply qe5 | apply qf5) | exact HB.out))); (case aF => exact (fun _ _ => trivial)); (case aO => exact (by (with_reducible repeat (first | apply Kd.R_alloc | apply Kd.R_drewN | apply Kd.R_drew)); exact HO_3.out)); (case aS => exact (qk5 (by repeat (first | (with_reducible first | exact HB.out | apply qd5 | apply qe5 | apply qf5) | exact HB.out)))); (case aL => have := LMc14.out; omega); intro v234 w15 ho hb hg hat; rw [← Ny233.out] at ho; have n0_ := qh5 (hb); have n1_ := qh5 (ho); clear HB; clear HO_3; have HB := n0_; have HO235 := n1_; clear n0_ n1_; clear ho hb hg hat))
                          go_roundg k2
                          case measure => have := HK1.out; have := HK2.out; omega
                          case rel => exact ⟨(y233), (wrap64 (x5_2 - 1)), (by first | rfl | (simp; done) | (simp [*]; done)), H', ⟨by have := HK1.out; have := HK2.out; omega⟩, ⟨by (with_reducible repeat (first | apply Kd.R_alloc | apply Kd.R_drewN | apply Kd.R_drew)); exact HO235.out⟩, ⟨by repeat (first | (with_reducible first | exact HB.out | apply qd5 | apply qe5 | apply qf5) | exact HB.out)⟩⟩
                        · rw [if_neg c14] at H
                          exact absurd H (by simp)
                      · rw [if_neg c12] at H
                        exact absurd H (by simp)
                    · rw [if_neg c10] at H
                      exact absurd H (by simp)
                  · rw [if_neg c9] at H
                    exact absurd H (by simp)
                · rw [if_neg c8] at H
                  have c8b0 : decide (0 ≤ x5_2) = false := decide_eq_false c8
                  clear c8
                  have H' := qh5 H
                  clear H
                  go_wp2
                  go_roundg k2
                  case measure => have := HK1.out; have := HK2.out; omega
                  case rel => exact ⟨(x3_2), (wrap64 (x12_1 + 1)), (by first | rfl | (simp; done) | (simp [*]; done)), H', ⟨by have := HK1.out; have := HK2.out; omega⟩, ⟨by (with_reducible repeat (first | apply Kd.R_alloc | apply Kd.R_drewN | apply Kd.R_drew)); exact HO_3.out⟩, ⟨by repeat (first | (with_reducible first | exact HB.out | apply qd5 | apply qe5 | apply qf5) | exact HB.out)⟩⟩
          · rw [if_neg c7] at H
            have c7b0 : decide (x12_1 < (a0.size : Int)) = false := decide_eq_false c7
            clear c7
            obtain rfl := Option.some.inj H
            have hcv16 := own_string (P := Tryd.prog) Tryd.underlying22 Tryd.underlying5 Tryd.underlying9 (Kd.own_of_R HO_3.out)
            go_wp2
            go_ret
            exact ⟨by first | rfl | (simp [errW_none, errW_some] <;> rfl) | (simp only [← hji2]; first | rfl | (simp [errW_none, errW_some] <;> rfl)) | (simp [*, errW_none, errW_some] <;> rfl), by repeat (first | (with_reducible first | exact HB.out | apply qd5 | apply qe5 | apply qf5) | exact HB.out)⟩
    · rw [if_neg c4] at H
      exact absurd H (by simp)
  · rw [if_neg c3] at H
    exact absurd H (by simp)

/-! ### impl_messageBits: function 57 -/
def impl_messageBits.f (k : Nat) (a0 : ByteArray) : Option (ByteArray) := if 6 + a0.size ≤ 9223372036854775807 then ((impl_hash.f ((⟨#[100, 105, 103, 101, 115, 116]⟩ : ByteArray) ++ a0)).bind fun t236 => ((impl_hashBits.f k t236).bind fun t237 => (if 0 ≤ 32 then (if 32 ≤ (t237.size : Int) then (some (t237.extract 0 32)) else (none)) else (none)))) else (none)
theorem impl_messageBits.mono : ∀ a0 k, LeO (impl_messageBits.f k a0) (impl_messageBits.f (k + 1) a0) := by
  intro a0 k
  unfold impl_messageBits.f
  repeat' first
      | (with_reducible exact impl_hashBits.mono _ _)
      | (with_reducible exact LeO.refl _)
      | (with_reducible exact LeO.none _)
      | (with_reducible refine LeO.ite ?_ ?_)
      | (with_reducible refine LeO.bind ?_ (fun _ => ?_))
      | exact impl_hashBits.mono _ _
      | exact LeO.none _
      | refine LeO.ite ?_ ?_
      | refine LeO.bind ?_ (fun _ => ?_)
set_option maxHeartbeats 8000000 in
set_option maxRecDepth 100000 in
theorem impl_messageBits.calls (k : Nat) (a0 : ByteArray) (r : ByteArray) (w : World) (hG_ : Go.Proofs.YtgknilganicofaaDoor.Sha.GlobA w) (h : impl_messageBits.f k a0 = some r) :
    Calls Tryd.prog 57 #[.string a0] w fun e w' => e = .returned (.string r) ∧ Below w.heap.size w w' := by
  have HB := qh5 (Below.refl w.heap.size w)
  have H : (if 6 + a0.size ≤ 9223372036854775807 then ((impl_hash.f ((⟨#[100, 105, 103, 101, 115, 116]⟩ : ByteArray) ++ a0)).bind fun t236 => ((impl_hashBits.f k t236).bind fun t237 => (if 0 ≤ 32 then (if 32 ≤ (t237.size : Int) then (some (t237.extract 0 32)) else (none)) else (none)))) else (none)) = some r := h
  clear h
  by_cases c2 : 6 + a0.size ≤ 9223372036854775807
  · rw [if_pos c2] at H
    have c2b0 := eq_true c2
    have c2b1 : decide (6 + a0.size ≤ 9223372036854775807) = true := decide_eq_true c2
    try have c2b2 : (9223372036854775807 < 6 + a0.size) = False := eq_false (Nat.not_lt.2 c2)
    replace H := Option.bind_eq_some_iff.mp H
    obtain ⟨t236, A30, H⟩ := H
    replace H : ((impl_hashBits.f k t236).bind fun t237 => (if 0 ≤ 32 then (if 32 ≤ (t237.size : Int) then (some (t237.extract 0 32)) else (none)) else (none))) = some r := H
    have A3 := qh5 A30
    clear A30
    replace H := Option.bind_eq_some_iff.mp H
    obtain ⟨t237, A40, H⟩ := H
    replace H : (if 0 ≤ 32 then (if 32 ≤ (t237.size : Int) then (some (t237.extract 0 32)) else (none)) else (none)) = some r := H
    have A4 := qh5 A40
    clear A40
    by_cases c5 : 0 ≤ 32
    · rw [if_pos c5] at H
      have c5b0 := eq_true c5
      have c5b1 : decide (0 ≤ 32) = true := decide_eq_true c5
      clear c5
      by_cases c6 : 32 ≤ (t237.size : Int)
      · rw [if_pos c6] at H
        have c6b0 := eq_true c6
        have c6b1 : decide (32 ≤ (t237.size : Int)) = true := decide_eq_true c6
        clear c6
        obtain rfl := Option.some.inj H
        go_enter Tryd.func57, Tryd.ntmps57
        go_wp2_with (first | ((with_reducible refine gate_callee (f := 53) rfl ?_); refine goesL_ (some 5) rfl rfl Tryd.func53 (by kernel_rfl) rfl #[.string ((⟨#[100, 105, 103, 101, 115, 116]⟩ : ByteArray) ++ a0)] rfl (by (try simp only [List.map_toArray, List.map_cons, List.map_nil]); first | done | rfl | (simp only [List.length_drop, List.length_take]; rfl)) ?_; (with_reducible refine (impl_hash.calls ((⟨#[100, 105, 103, 101, 115, 116]⟩ : ByteArray) ++ a0) t236 _ ?side1 A3.out).mono ?_); (case side1 => exact Go.Proofs.YtgknilganicofaaDoor.Sha.glob_below hG_ (by repeat (first | (with_reducible first | exact HB.out | apply qd5 | apply qe5 | apply qf5) | exact HB.out))); rintro e w7 ⟨rfl, hb⟩; refine ⟨_, rfl, ?_⟩; have n0_ := qh5 (qj5 (by repeat (first | (with_reducible first | exact HB.out | apply qd5 | apply qe5 | apply qf5) | exact HB.out)) hb); clear HB; have HB := n0_; clear n0_; (try clear hb); (try clear hb2); (try clear hk); (try clear hi)) | ((with_reducible refine gate_callee (f := 98) rfl ?_); refine goesL_ (some 6) rfl rfl Tryd.func98 (by kernel_rfl) rfl #[.string t236] rfl (by (try simp only [List.map_toArray, List.map_cons, List.map_nil]); first | done | rfl | (simp only [List.length_drop, List.length_take]; rfl)) ?_; (with_reducible refine (impl_hashBits.calls k t236 t237 _ A4.out).mono ?_); rintro e w8 ⟨rfl, hb⟩; refine ⟨_, rfl, ?_⟩; have n0_ := qh5 (qj5 (by repeat (first | (with_reducible first | exact HB.out | apply qd5 | apply qe5 | apply qf5) | exact HB.out)) hb); clear HB; have HB := n0_; clear n0_; (try clear hb); (try clear hb2); (try clear hk); (try clear hi)))
        go_ret
        exact ⟨by first | rfl | (simp [errW_none, errW_some] <;> rfl) | (simp [*, errW_none, errW_some] <;> rfl), by repeat (first | (with_reducible first | exact HB.out | apply qd5 | apply qe5 | apply qf5) | exact HB.out)⟩
      · rw [if_neg c6] at H
        exact absurd H (by simp)
    · rw [if_neg c5] at H
      exact absurd H (by simp)
  · rw [if_neg c2] at H
    exact absurd H (by simp)

/-! ### impl_number: function 77 -/
def impl_number.l0 : Nat → Int → List Int → Int → Option (ByteArray)
  | 0, _, _, _ => none
  | k + 1, x0, x5, x6 => if x6 ≥ 0 then (if 0 ≤ x6 then (if x6 < (x5.length : Int) then (impl_number.l0 k (x0 / 256) (x5.set (x6 : Int).toNat ((x0) % 256)) (wrap64 (x6 - 1))) else (none)) else (none)) else (some (strOfNums x5))
def impl_number.f (k : Nat) (a0 : Int) (a1 : Int) : Option (ByteArray) := if 0 ≤ a1 then (if (a1 : Int).toNat ≤ 281474976710656 then (impl_number.l0 k a0 (List.replicate (a1 : Int).toNat 0) (wrap64 (a1 - 1))) else (none)) else (none)
theorem impl_number.mono_l : ∀ k, (∀ y0 y1 y2, LeO (impl_number.l0 k y0 y1 y2) (impl_number.l0 (k + 1) y0 y1 y2))
  | 0 => fun _ _ _ r h => by simp [impl_number.l0] at h
  | k + 1 => by
    have ih0 := impl_number.mono_l k
    · intro y0 y1 y2
      unfold impl_number.l0
      repeat' first
      | (with_reducible exact ih0 _ _ _)
      | (with_reducible exact LeO.refl _)
      | (with_reducible exact LeO.none _)
      | (with_reducible refine LeO.ite ?_ ?_)
      | (with_reducible refine LeO.bind ?_ (fun _ => ?_))
      | exact ih0 _ _ _
      | exact LeO.none _
      | refine LeO.ite ?_ ?_
      | refine LeO.bind ?_ (fun _ => ?_)
theorem impl_number.mono : ∀ a0 a1 k, LeO (impl_number.f k a0 a1) (impl_number.f (k + 1) a0 a1) := by
  intro a0 a1 k
  have ih0 := impl_number.mono_l k
  unfold impl_number.f
  repeat' first
      | (with_reducible exact ih0 _ _ _)
      | (with_reducible exact LeO.refl _)
      | (with_reducible exact LeO.none _)
      | (with_reducible refine LeO.ite ?_ ?_)
      | (with_reducible refine LeO.bind ?_ (fun _ => ?_))
      | exact ih0 _ _ _
      | exact LeO.none _
      | refine LeO.ite ?_ ?_
      | refine LeO.bind ?_ (fun _ => ?_)
set_option maxHeartbeats 8000000 in
set_option maxRecDepth 100000 in
theorem impl_number.calls (k : Nat) (a0 : Int) (a1 : Int) (r : ByteArray) (w : World) (h : impl_number.f k a0 a1 = some r) :
    Calls Tryd.prog 77 #[.int .i64 a0, .int .i64 a1] w fun e w' => e = .returned (.string r) ∧ Below w.heap.size w w' := by
  have HB := qh5 (Below.refl w.heap.size w)
  have H : (if 0 ≤ a1 then (if (a1 : Int).toNat ≤ 281474976710656 then (impl_number.l0 k a0 (List.replicate (a1 : Int).toNat 0) (wrap64 (a1 - 1))) else (none)) else (none)) = some r := h
  clear h
  by_cases c3 : 0 ≤ a1
  · rw [if_pos c3] at H
    have c3b0 := eq_true c3
    have c3b1 : decide (0 ≤ a1) = true := decide_eq_true c3
    clear c3
    by_cases c4 : (a1 : Int).toNat ≤ 281474976710656
    · rw [if_pos c4] at H
      have c4b0 := eq_true c4
      have c4b1 : decide ((a1 : Int).toNat ≤ 281474976710656) = true := decide_eq_true c4
      clear c4
      obtain ⟨y238, hy238⟩ : ∃ y_ : List Int, y_ = (List.replicate (a1 : Int).toNat 0) := ⟨_, rfl⟩
      replace H : (impl_number.l0 k a0 y238 (wrap64 (a1 - 1))) = some r := by first | (rw [hy238]; with_reducible exact H) | (have H2_ := (Option.bind_some _ _).symm.trans H; rw [hy238]; with_reducible exact H2_) | (have H2_ := (Option.bind_some _ _).symm.trans H; with_reducible exact H2_) | with_reducible exact H | (rw [hy238]; exact H) | exact H
      have Ny238 := qh5 hy238
      clear hy238
      have H' := qh5 H
      clear H
      go_enter Tryd.func77, Tryd.ntmps77
      go_wp2_with (first | ((with_reducible refine gate_dst (N := 8) rfl ?_); refine Kd.R_make (Kd.int .u8) _ 5 rfl (N := 8) rfl 22 _ _ rfl a1 rfl rfl Tryd.underlying22 (.int .u8 0) 1 info5 rfl (by decide) (by omega) 0 (ok := fun _ => True) (okp := fun _ => True) rfl (fun _ hk => hk) trivial (of_decide_eq_true (by first | (with_reducible assumption) | assumption)) (Nat.le_trans (Nat.mul_le_mul_right _ (of_decide_eq_true (by first | (with_reducible assumption) | assumption) : a1.toNat ≤ 281474976710656)) (by omega)) (Below.refl _ _) (Nat.le_refl _) ?_; intro v239 w5 ho6 hb hg_ hnew_; clear hg_ hnew_; (first | rw [← Ny238.out] at ho6 | (simp only [Int.reduceToNat] at ho6; rw [← Ny238.out] at ho6)); have n0_ := qh5 (Kd.R_lower ho6 (qk5 (by repeat (first | (with_reducible first | exact HB.out | apply qd5 | apply qe5 | apply qf5) | exact HB.out)))); have n1_ := qh5 (qj5 (by repeat (first | (with_reducible first | exact HB.out | apply qd5 | apply qe5 | apply qf5) | exact HB.out)) hb); clear HB; have HO240 := n0_; have HB := n1_; clear n0_ n1_; clear hb ho6))
      go_loopg [0, 6] k (fun kq v0 v6 w' => ∃ (x0_1 : Int) (x5_1 : List Int) (x6_1 : Int), v0 = .int .i64 x0_1 ∧ v6 = .int .i64 x6_1 ∧ Aside0 (impl_number.l0 kq x0_1 x5_1 x6_1 = some r) ∧ Aside0 (kq ≤ k) ∧ Aside0 (Kd.R (Kd.int .u8) 5 w' w.heap.size (fun _ => True) v239 x5_1) ∧ Aside0 (Below w.heap.size w w'))
      case atStart => exact ⟨(a0), (y238), (wrap64 (a1 - 1)), (by first | rfl | (simp; done) | (simp [*]; done)), (by first | rfl | (simp; done) | (simp [*]; done)), H', ⟨Nat.le_refl _⟩, ⟨by (with_reducible repeat (first | apply Kd.R_alloc | apply Kd.R_drewN | apply Kd.R_drew)); exact HO240.out⟩, ⟨by repeat (first | (with_reducible first | exact HB.out | apply qd5 | apply qe5 | apply qf5) | exact HB.out)⟩⟩
      case round =>
        clear H'
        try clear p2
        try clear c3
        try clear c3b0
        try clear c3b1
        try clear c4
        try clear c4b0
        try clear c4b1
        try clear p6
        obtain ⟨x0_1, x5_1, x6_1, rfl, rfl, HA, HK1, HO_5, HB⟩ := hrel
        cases gk with
        | zero => exact absurd HA.out (by simp [impl_number.l0])
        | succ k1 =>
          have H := HA.out
          clear HA
          simp only [impl_number.l0] at H
          by_cases c7 : x6_1 ≥ 0
          · rw [if_pos c7] at H
            have c7b0 : decide (0 ≤ x6_1) = true := decide_eq_true c7
            clear c7
            by_cases c8 : 0 ≤ x6_1
            · rw [if_pos c8] at H
              have c8b0 : decide (0 ≤ x6_1) = true := decide_eq_true c8
              clear c8
              by_cases c9 : x6_1 < (x5_1.length : Int)
              · rw [if_pos c9] at H
                have c9b0 : decide (x6_1 < (x5_1.length : Int)) = true := decide_eq_true c9
                clear c9
                obtain ⟨y241, hy241⟩ : ∃ y_ : List Int, y_ = (x5_1.set (x6_1 : Int).toNat ((x0_1) % 256)) := ⟨_, rfl⟩
                replace H : (impl_number.l0 k1 (x0_1 / 256) y241 (wrap64 (x6_1 - 1))) = some r := by first | (rw [hy241]; with_reducible exact H) | (have H2_ := (Option.bind_some _ _).symm.trans H; rw [hy241]; with_reducible exact H2_) | (have H2_ := (Option.bind_some _ _).symm.trans H; with_reducible exact H2_) | with_reducible exact H | (rw [hy241]; exact H) | exact H
                have Ny241 := qh5 hy241
                clear hy241
                have H' := qh5 H
                clear H
                have p10 : 0 ≤ (x6_1 : Int) := of_decide_eq_true (by first | (with_reducible assumption) | assumption)
                have q10 : (x6_1 : Int) < ((x5_1.length : Int) : Int) := of_decide_eq_true (by first | (with_reducible assumption) | assumption)
                obtain ⟨go10, co10, eo10, gb10, gl10, cl10, HG10⟩ := Kd.R_form HO_5.out (by omega)
                (first | cases eo10 | (injection eo10 with ea_ en_ ec_; (first | subst ea_ | (injection ea_ with ea_; subst ea_)); subst ec_; clear en_))
                have GB10 := qh5 gb10
                have GG10 := qh5 HG10
                clear gb10 gl10 HG10
                obtain ⟨hx10_0, hf10_0⟩ := Kd.R_celln 0 HO_5.out (x6_1 : Int) p10 q10
                replace p10 := eq_true p10
                replace q10 := eq_true q10
                have HP11 := Kd.R_putg HO_5.out (x6_1 : Int) ((x0_1) % 256)
                go_wp2_with (first | ((with_reducible refine gate_store (t := 5) (p := 19) rfl ?_); refine store_event (t := 5) (p := 19) (v := ?vo_w12) (w1 := (wr.setCell ⟨go10, (x6_1 : Int).toNat, none⟩ (.int .u8 ((x0_1) % 256)))) ?hg ?ho ?hn ?hr ?_; (case ho => rfl); (case hg => rfl); (case hn => rfl); (case hr => first | (go_simp; done) | (go_simp; rfl)); intro w12 hw; have hg : wr.grownBy w12 (some go10) := (by rw [hw]; exact HP11.2); have hp_ : Kd.R (Kd.int .u8) 5 w12 w.heap.size (fun _ => True) (.slice (some ⟨go10, 0, none⟩) x5_1.length co10) y241 := (by rw [hw, Ny241.out]; exact HP11.1); clear HP11; have n0_ := qh5 (hp_); have n1_ := qh5 ((by rw [hw]; exact qg5 (HB.out) GB10.out : Below w.heap.size w w12)); clear HO_5; clear HB; have HO_5 := n0_; have HB := n1_; clear n0_ n1_; clear hg hw hp_))
                go_roundg k1
                case measure => have := HK1.out; omega
                case rel => exact ⟨(x0_1 / 256), (y241), (wrap64 (x6_1 - 1)), (by first | rfl | (simp; done) | (simp [*]; done)), (by first | rfl | (simp; done) | (simp [*]; done)), H', ⟨by have := HK1.out; omega⟩, ⟨by (with_reducible repeat (first | apply Kd.R_alloc | apply Kd.R_drewN | apply Kd.R_drew)); exact HO_5.out⟩, ⟨by repeat (first | (with_reducible first | exact HB.out | apply qd5 | apply qe5 | apply qf5) | exact HB.out)⟩⟩
              · rw [if_neg c9] at H
                exact absurd H (by simp)
            · rw [if_neg c8] at H
              exact absurd H (by simp)
          · rw [if_neg c7] at H
            have c7b0 : decide (0 ≤ x6_1) = false := decide_eq_false c7
            clear c7
            obtain rfl := Option.some.inj H
            have hcv13 := own_string (P := Tryd.prog) Tryd.underlying22 Tryd.underlying5 Tryd.underlying9 (Kd.own_of_R HO_5.out)
            go_wp2
            go_ret
            exact ⟨by first | rfl | (simp [errW_none, errW_some] <;> rfl) | (simp [*, errW_none, errW_some] <;> rfl), by repeat (first | (with_reducible first | exact HB.out | apply qd5 | apply qe5 | apply qf5) | exact HB.out)⟩
    · rw [if_neg c4] at H
      exact absurd H (by simp)
  · rw [if_neg c3] at H
    exact absurd H (by simp)

/-! ### impl_secret: function 66 -/
def impl_secret.f (k : Nat) (a0 : ByteArray) (a1 : Int) (a2 : Int) (a3 : Int) : Option (ByteArray) := if 6 + a0.size ≤ 9223372036854775807 then ((impl_number.f k a1 1).bind fun t242 => (if ((⟨#[115, 101, 99, 114, 101, 116]⟩ : ByteArray) ++ a0).size + t242.size ≤ 9223372036854775807 then ((impl_number.f k a2 1).bind fun t243 => (if (((⟨#[115, 101, 99, 114, 101, 116]⟩ : ByteArray) ++ a0) ++ t242).size + t243.size ≤ 9223372036854775807 then ((impl_number.f k a3 1).bind fun t244 => (if ((((⟨#[115, 101, 99, 114, 101, 116]⟩ : ByteArray) ++ a0) ++ t242) ++ t243).size + t244.size ≤ 9223372036854775807 then ((impl_hash.f (((((⟨#[115, 101, 99, 114, 101, 116]⟩ : ByteArray) ++ a0) ++ t242) ++ t243) ++ t244)).bind fun t245 => (some t245)) else (none))) else (none))) else (none))) else (none)
theorem impl_secret.mono : ∀ a0 a1 a2 a3 k, LeO (impl_secret.f k a0 a1 a2 a3) (impl_secret.f (k + 1) a0 a1 a2 a3) := by
  intro a0 a1 a2 a3 k
  unfold impl_secret.f
  repeat' first
      | (with_reducible exact impl_number.mono _ _ _)
      | (with_reducible exact LeO.refl _)
      | (with_reducible exact LeO.none _)
      | (with_reducible refine LeO.ite ?_ ?_)
      | (with_reducible refine LeO.bind ?_ (fun _ => ?_))
      | exact impl_number.mono _ _ _
      | exact LeO.none _
      | refine LeO.ite ?_ ?_
      | refine LeO.bind ?_ (fun _ => ?_)
set_option maxHeartbeats 8000000 in
set_option maxRecDepth 100000 in
theorem impl_secret.calls (k : Nat) (a0 : ByteArray) (a1 : Int) (a2 : Int) (a3 : Int) (r : ByteArray) (w : World) (hG_ : Go.Proofs.YtgknilganicofaaDoor.Sha.GlobA w) (h : impl_secret.f k a0 a1 a2 a3 = some r) :
    Calls Tryd.prog 66 #[.string a0, .int .i64 a1, .int .i64 a2, .int .i64 a3] w fun e w' => e = .returned (.string r) ∧ Below w.heap.size w w' := by
  have HB := qh5 (Below.refl w.heap.size w)
  have H : (if 6 + a0.size ≤ 9223372036854775807 then ((impl_number.f k a1 1).bind fun t242 => (if ((⟨#[115, 101, 99, 114, 101, 116]⟩ : ByteArray) ++ a0).size + t242.size ≤ 9223372036854775807 then ((impl_number.f k a2 1).bind fun t243 => (if (((⟨#[115, 101, 99, 114, 101, 116]⟩ : ByteArray) ++ a0) ++ t242).size + t243.size ≤ 9223372036854775807 then ((impl_number.f k a3 1).bind fun t244 => (if ((((⟨#[115, 101, 99, 114, 101, 116]⟩ : ByteArray) ++ a0) ++ t242) ++ t243).size + t244.size ≤ 9223372036854775807 then ((impl_hash.f (((((⟨#[115, 101, 99, 114, 101, 116]⟩ : ByteArray) ++ a0) ++ t242) ++ t243) ++ t244)).bind fun t245 => (some t245)) else (none))) else (none))) else (none))) else (none)) = some r := h
  clear h
  by_cases c5 : 6 + a0.size ≤ 9223372036854775807
  · rw [if_pos c5] at H
    have c5b0 := eq_true c5
    have c5b1 : decide (6 + a0.size ≤ 9223372036854775807) = true := decide_eq_true c5
    try have c5b2 : (9223372036854775807 < 6 + a0.size) = False := eq_false (Nat.not_lt.2 c5)
    replace H := Option.bind_eq_some_iff.mp H
    obtain ⟨t242, A60, H⟩ := H
    replace H : (if ((⟨#[115, 101, 99, 114, 101, 116]⟩ : ByteArray) ++ a0).size + t242.size ≤ 9223372036854775807 then ((impl_number.f k a2 1).bind fun t243 => (if (((⟨#[115, 101, 99, 114, 101, 116]⟩ : ByteArray) ++ a0) ++ t242).size + t243.size ≤ 9223372036854775807 then ((impl_number.f k a3 1).bind fun t244 => (if ((((⟨#[115, 101, 99, 114, 101, 116]⟩ : ByteArray) ++ a0) ++ t242) ++ t243).size + t244.size ≤ 9223372036854775807 then ((impl_hash.f (((((⟨#[115, 101, 99, 114, 101, 116]⟩ : ByteArray) ++ a0) ++ t242) ++ t243) ++ t244)).bind fun t245 => (some t245)) else (none))) else (none))) else (none)) = some r := H
    have A6 := qh5 A60
    clear A60
    by_cases c7 : ((⟨#[115, 101, 99, 114, 101, 116]⟩ : ByteArray) ++ a0).size + t242.size ≤ 9223372036854775807
    · rw [if_pos c7] at H
      have c7b0 := eq_true c7
      have c7b1 : decide (((⟨#[115, 101, 99, 114, 101, 116]⟩ : ByteArray) ++ a0).size + t242.size ≤ 9223372036854775807) = true := decide_eq_true c7
      try have c7b2 : (9223372036854775807 < ((⟨#[115, 101, 99, 114, 101, 116]⟩ : ByteArray) ++ a0).size + t242.size) = False := eq_false (Nat.not_lt.2 c7)
      (try (have c7b3 := c7; simp only [ByteArray.size_append] at c7b3; have c7b4 := eq_false (Nat.not_lt.2 c7b3)))
      (try (have c7b5 : (9223372036854775807 < 6 + a0.size + t242.size) = False := eq_false (by have h_ := c7; simp only [ByteArray.size_append] at h_; have hl0_ : ((⟨#[115, 101, 99, 114, 101, 116]⟩ : ByteArray)).size = 6 := rfl; omega)))
      replace H := Option.bind_eq_some_iff.mp H
      obtain ⟨t243, A80, H⟩ := H
      replace H : (if (((⟨#[115, 101, 99, 114, 101, 116]⟩ : ByteArray) ++ a0) ++ t242).size + t243.size ≤ 9223372036854775807 then ((impl_number.f k a3 1).bind fun t244 => (if ((((⟨#[115, 101, 99, 114, 101, 116]⟩ : ByteArray) ++ a0) ++ t242) ++ t243).size + t244.size ≤ 9223372036854775807 then ((impl_hash.f (((((⟨#[115, 101, 99, 114, 101, 116]⟩ : ByteArray) ++ a0) ++ t242) ++ t243) ++ t244)).bind fun t245 => (some t245)) else (none))) else (none)) = some r := H
      have A8 := qh5 A80
      clear A80
      by_cases c9 : (((⟨#[115, 101, 99, 114, 101, 116]⟩ : ByteArray) ++ a0) ++ t242).size + t243.size ≤ 9223372036854775807
      · rw [if_pos c9] at H
        have c9b0 := eq_true c9
        have c9b1 : decide ((((⟨#[115, 101, 99, 114, 101, 116]⟩ : ByteArray) ++ a0) ++ t242).size + t243.size ≤ 9223372036854775807) = true := decide_eq_true c9
        try have c9b2 : (9223372036854775807 < (((⟨#[115, 101, 99, 114, 101, 116]⟩ : ByteArray) ++ a0) ++ t242).size + t243.size) = False := eq_false (Nat.not_lt.2 c9)
        (try (have c9b3 := c9; simp only [ByteArray.size_append] at c9b3; have c9b4 := eq_false (Nat.not_lt.2 c9b3)))
        (try (have c9b5 : (9223372036854775807 < 6 + a0.size + t242.size + t243.size) = False := eq_false (by have h_ := c9; simp only [ByteArray.size_append] at h_; have hl0_ : ((⟨#[115, 101, 99, 114, 101, 116]⟩ : ByteArray)).size = 6 := rfl; omega)))
        replace H := Option.bind_eq_some_iff.mp H
        obtain ⟨t244, A100, H⟩ := H
        replace H : (if ((((⟨#[115, 101, 99, 114, 101, 116]⟩ : ByteArray) ++ a0) ++ t242) ++ t243).size + t244.size ≤ 9223372036854775807 then ((impl_hash.f (((((⟨#[115, 101, 99, 114, 101, 116]⟩ : ByteArray) ++ a0) ++ t242) ++ t243) ++ t244)).bind fun t245 => (some t245)) else (none)) = some r := H
        have A10 := qh5 A100
        clear A100
        by_cases c11 : ((((⟨#[115, 101, 99, 114, 101, 116]⟩ : ByteArray) ++ a0) ++ t242) ++ t243).size + t244.size ≤ 9223372036854775807
        · rw [if_pos c11] at H
          have c11b0 := eq_true c11
          have c11b1 : decide (((((⟨#[115, 101, 99, 114, 101, 116]⟩ : ByteArray) ++ a0) ++ t242) ++ t243).size + t244.size ≤ 9223372036854775807) = true := decide_eq_true c11
          try have c11b2 : (9223372036854775807 < ((((⟨#[115, 101, 99, 114, 101, 116]⟩ : ByteArray) ++ a0) ++ t242) ++ t243).size + t244.size) = False := eq_false (Nat.not_lt.2 c11)
          (try (have c11b3 := c11; simp only [ByteArray.size_append] at c11b3; have c11b4 := eq_false (Nat.not_lt.2 c11b3)))
          (try (have c11b5 : (9223372036854775807 < 6 + a0.size + t242.size + t243.size + t244.size) = False := eq_false (by have h_ := c11; simp only [ByteArray.size_append] at h_; have hl0_ : ((⟨#[115, 101, 99, 114, 101, 116]⟩ : ByteArray)).size = 6 := rfl; omega)))
          replace H := Option.bind_eq_some_iff.mp H
          obtain ⟨t245, A120, H⟩ := H
          replace H : (some t245) = some r := H
          have A12 := qh5 A120
          clear A120
          obtain rfl := Option.some.inj H
          go_enter Tryd.func66, Tryd.ntmps66
          go_wp2_with (first | ((with_reducible refine gate_callee (f := 77) rfl ?_); refine goesL_ (some 12) rfl rfl Tryd.func77 (by kernel_rfl) rfl #[.int .i64 a1, .int .i64 1] rfl (by (try simp only [List.map_toArray, List.map_cons, List.map_nil]); first | done | rfl | (simp only [List.length_drop, List.length_take]; rfl)) ?_; (with_reducible refine (impl_number.calls k a1 1 t242 _ A6.out).mono ?_); rintro e w13 ⟨rfl, hb⟩; refine ⟨_, rfl, ?_⟩; have n0_ := qh5 (qj5 (by repeat (first | (with_reducible first | exact HB.out | apply qd5 | apply qe5 | apply qf5) | exact HB.out)) hb); clear HB; have HB := n0_; clear n0_; (try clear hb); (try clear hb2); (try clear hk); (try clear hi)) | ((with_reducible refine gate_callee (f := 77) rfl ?_); refine goesL_ (some 15) rfl rfl Tryd.func77 (by kernel_rfl) rfl #[.int .i64 a2, .int .i64 1] rfl (by (try simp only [List.map_toArray, List.map_cons, List.map_nil]); first | done | rfl | (simp only [List.length_drop, List.length_take]; rfl)) ?_; (with_reducible refine (impl_number.calls k a2 1 t243 _ A8.out).mono ?_); rintro e w14 ⟨rfl, hb⟩; refine ⟨_, rfl, ?_⟩; have n0_ := qh5 (qj5 (by repeat (first | (with_reducible first | exact HB.out | apply qd5 | apply qe5 | apply qf5) | exact HB.out)) hb); clear HB; have HB := n0_; clear n0_; (try clear hb); (try clear hb2); (try clear hk); (try clear hi)) | ((with_reducible refine gate_callee (f := 77) rfl ?_); refine goesL_ (some 18) rfl rfl Tryd.func77 (by kernel_rfl) rfl #[.int .i64 a3, .int .i64 1] rfl (by (try simp only [List.map_toArray, List.map_cons, List.map_nil]); first | done | rfl | (simp only [List.length_drop, List.length_take]; rfl)) ?_; (with_reducible refine (impl_number.calls k a3 1 t244 _ A10.out).mono ?_); rintro e w15 ⟨rfl, hb⟩; refine ⟨_, rfl, ?_⟩; have n0_ := qh5 (qj5 (by repeat (first | (with_reducible first | exact HB.out | apply qd5 | apply qe5 | apply qf5) | exact HB.out)) hb); clear HB; have HB := n0_; clear n0_; (try clear hb); (try clear hb2); (try clear hk); (try clear hi)) | ((with_reducible refine gate_callee (f := 53) rfl ?_); refine goesL_ (some 20) rfl rfl Tryd.func53 (by kernel_rfl) rfl #[.string (((((⟨#[115, 101, 99, 114, 101, 116]⟩ : ByteArray) ++ a0) ++ t242) ++ t243) ++ t244)] rfl (by (try simp only [List.map_toArray, List.map_cons, List.map_nil]); first | done | rfl | (simp only [List.length_drop, List.length_take]; rfl)) ?_; (with_reducible refine (impl_hash.calls (((((⟨#[115, 101, 99, 114, 101, 116]⟩ : ByteArray) ++ a0) ++ t242) ++ t243) ++ t244) t245 _ ?side1 A12.out).mono ?_); (case side1 => exact Go.Proofs.YtgknilganicofaaDoor.Sha.glob_below hG_ (by repeat (first | (with_reducible first | exact HB.out | apply qd5 | apply qe5 | apply qf5) | exact HB.out))); rintro e w16 ⟨rfl, hb⟩; refine ⟨_, rfl, ?_⟩; have n0_ := qh5 (qj5 (by repeat (first | (with_reducible first | exact HB.out | apply qd5 | apply qe5 | apply qf5) | exact HB.out)) hb); clear HB; have HB := n0_; clear n0_; (try clear hb); (try clear hb2); (try clear hk); (try clear hi)))
          go_ret
          exact ⟨by first | rfl | (simp [errW_none, errW_some] <;> rfl) | (simp [*, errW_none, errW_some] <;> rfl), by repeat (first | (with_reducible first | exact HB.out | apply qd5 | apply qe5 | apply qf5) | exact HB.out)⟩
        · rw [if_neg c11] at H
          exact absurd H (by simp)
      · rw [if_neg c9] at H
        exact absurd H (by simp)
    · rw [if_neg c7] at H
      exact absurd H (by simp)
  · rw [if_neg c5] at H
    exact absurd H (by simp)

end Go.Proofs.YtgknilganicofaaDoor.PFnExactSignNext
