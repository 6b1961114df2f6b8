-- laid by this session's program myprint.py over the kit's printer
-- aliased
import Derived.Test.YtgknilganicofaaDoorPFnExactSignNextx0
import Derived.Test.YtgknilganicofaaDoorPFnExactSignNextx7
namespace Go.Proofs.YtgknilganicofaaDoor.PFnExactSignNext
open Go.RowKit Go.Proofs.YtgknilganicofaaDoorV.PrintWords Go.Proofs.YtgknilganicofaaDoorV.PrintLast Go.Proofs.YtgknilganicofaaDoorV.PrintMore
attribute [local go_sem] max2_int min2_int max_two min_two max_three min_three max_four min_four u8_wm u32_wm   -- for this text's walks alone
set_option linter.unusedVariables false
set_option linter.unusedSimpArgs false

/-! ### impl_within: function 60 -/
theorem qa8 : type_of% @blk_drewN := @blk_drewN
theorem qb8 : type_of% @blk_drew := @blk_drew
theorem qc8 : type_of% @blk_alloc := @blk_alloc
theorem qd8 : type_of% @below_alloc := @below_alloc
theorem qe8 : type_of% @pw_below_drewN := @pw_below_drewN
theorem qf8 : type_of% @below_drew1 := @below_drew1
theorem qg8 : type_of% @below_set := @below_set
theorem qh8 : type_of% @Aside0.mk := @Aside0.mk
theorem qi8 : type_of% @below_size := @below_size
def impl_within.f (a0 : Int) (a1 : Int) (a2 : Int) : Option (Bool) := if a0 ≥ a1 then (some (decide (a0 ≤ a2))) else (some false)
set_option maxHeartbeats 8000000 in
set_option maxRecDepth 100000 in
theorem impl_within.calls (a0 : Int) (a1 : Int) (a2 : Int) (r : Bool) (w : World) (h : impl_within.f a0 a1 a2 = some r) :
    Calls Tryd.prog 60 #[.int .i64 a0, .int .i64 a1, .int .i64 a2] w fun e w' => e = .returned (.bool r) ∧ Drawn0 w w' := by
  have H : (if a0 ≥ a1 then (some (decide (a0 ≤ a2))) else (some false)) = some r := h
  clear h
  by_cases c4 : a0 ≥ a1
  · rw [if_pos c4] at H
    have c4b0 : decide (a1 ≤ a0) = true := decide_eq_true c4
    clear c4
    obtain rfl := Option.some.inj H
    go_enter Tryd.func60, Tryd.ntmps60
    go_wp2
    go_ret
    exact ⟨by first | rfl | (simp; done) | (simp [*]; done), by repeat (first | exact Drawn0.refl _ | apply Drawn0.step)⟩
  · rw [if_neg c4] at H
    have c4b0 : decide (a1 ≤ a0) = false := decide_eq_false c4
    clear c4
    obtain rfl := Option.some.inj H
    go_enter Tryd.func60, Tryd.ntmps60
    go_wp2
    go_ret
    exact ⟨by first | rfl | (simp; done) | (simp [*]; done), by repeat (first | exact Drawn0.refl _ | apply Drawn0.step)⟩

/-! ### impl_isHash: function 64 -/
def impl_isHash.f (a0 : ByteArray) : Option (Bool) := some ((a0.size : Int) == 32)
set_option maxHeartbeats 8000000 in
set_option maxRecDepth 100000 in
theorem impl_isHash.calls (a0 : ByteArray) (r : Bool) (w : World) (h : impl_isHash.f a0 = some r) :
    Calls Tryd.prog 64 #[.string a0] w fun e w' => e = .returned (.bool r) ∧ Drawn0 w w' := by
  have H : (some ((a0.size : Int) == 32)) = some r := h
  clear h
  obtain rfl := Option.some.inj H
  go_enter Tryd.func64, Tryd.ntmps64
  go_wp2
  go_ret
  exact ⟨by first | rfl | (simp; done) | (simp [*]; done), by repeat (first | exact Drawn0.refl _ | apply Drawn0.step)⟩

/-! ### impl_KeyChainOK: function 94 -/
def impl_KeyChainOK.f (a0_0 : ByteArray) (a0_1 : Int) : Option (Bool) := (impl_isHash.f a0_0).bind fun t289 => (if t289 = true then ((impl_within.f a0_1 0 8).bind fun t290 => (some t290)) else (some false))
set_option maxHeartbeats 8000000 in
set_option maxRecDepth 100000 in
theorem impl_KeyChainOK.calls (a0_0 : ByteArray) (a0_1 : Int) (r : Bool) (w : World) (h : impl_KeyChainOK.f a0_0 a0_1 = some r) :
    Calls Tryd.prog 94 #[.agg #[.string a0_0, .int .i64 a0_1]] w fun e w' => e = .returned (.bool r) ∧ Below w.heap.size w w' := by
  have hu62 := Tryd.underlying62
  have HB := qh8 (Below.refl w.heap.size w)
  have H : ((impl_isHash.f a0_0).bind fun t289 => (if t289 = true then ((impl_within.f a0_1 0 8).bind fun t290 => (some t290)) else (some false))) = some r := h
  clear h
  replace H := Option.bind_eq_some_iff.mp H
  obtain ⟨t289, A20, H⟩ := H
  replace H : (if t289 = true then ((impl_within.f a0_1 0 8).bind fun t290 => (some t290)) else (some false)) = some r := H
  have A2 := qh8 A20
  clear A20
  by_cases c3 : t289 = true
  · subst c3
    have H1 : ((impl_within.f a0_1 0 8).bind fun t290 => (some t290)) = some r := by rw [if_pos rfl] at H; exact H
    clear H
    have H := H1
    clear H1
    replace H := Option.bind_eq_some_iff.mp H
    obtain ⟨t290, A40, H⟩ := H
    replace H : (some t290) = some r := H
    have A4 := qh8 A40
    clear A40
    obtain rfl := Option.some.inj H
    go_enter Tryd.func94, Tryd.ntmps94
    go_wp2_with (first | ((with_reducible refine gate_dst (N := 1) rfl ?_); refine box_event ?hg (N := 1) ?hd (cs := #[.string a0_0, .int .i64 a0_1]) (t := 62) ?hr ?_; (case hd => rfl); (case hg => rfl); (case hr => first | (go_simp; done) | (go_simp; rfl)); intro gb288 hg w5 hbox hb; have n0_ := qh8 (below_step (by repeat (first | (with_reducible first | exact HB.out | apply qd8 | apply qe8 | apply qf8) | exact HB.out)) hb); have n1_ := qh8 (hbox); have n2_ := qh8 ((by rw [hg]; exact (qi8 (by repeat (first | (with_reducible first | exact HB.out | apply qd8 | apply qe8 | apply qf8) | exact HB.out))) : w.heap.size ≤ gb288)); have n3_ := qh8 ((by rw [hg]; exact (qi8 (by repeat (first | (with_reducible first | exact HB.out | apply qd8 | apply qe8 | apply qf8) | exact HB.out))) : w.heap.size ≤ gb288)); clear HB; have HB := n0_; have BK288 := n1_; have GW288 := n2_; have GE288 := n3_; clear n0_ n1_ n2_ n3_; clear hb hbox hg; have hcz6_0 : w5.cell? ⟨gb288, 0, none⟩ = some (.string a0_0) := (blk_cell BK288.out 0).trans rfl; have hcz6_1 : w5.cell? ⟨gb288, 1, none⟩ = some (.int .i64 a0_1) := (blk_cell BK288.out 1).trans rfl; have hfz6_0 := blk_frozen BK288.out 0; have hfz6_1 := blk_frozen BK288.out 1) | ((with_reducible refine gate_callee (f := 64) rfl ?_); refine goesL_ (some 5) rfl rfl Tryd.func64 (by kernel_rfl) rfl #[.string a0_0] rfl (by (try simp only [List.map_toArray, List.map_cons, List.map_nil]); first | done | rfl | (simp only [List.length_drop, List.length_take]; rfl)) ?_; (with_reducible refine (impl_isHash.calls a0_0 true _ A2.out).mono ?_); rintro e w' ⟨rfl, ⟨nd, rfl⟩⟩; refine ⟨_, rfl, ?_⟩) | (go_at_call 60; (with_reducible refine (impl_within.calls a0_1 0 8 t290 _ A4.out).mono ?_); rintro e w' ⟨rfl, ⟨nd, rfl⟩⟩))
    go_ret
    exact ⟨by first | rfl | (simp [errW_none, errW_some] <;> rfl) | (simp [*, errW_none, errW_some] <;> rfl), by repeat (first | (with_reducible first | exact HB.out | apply qd8 | apply qe8 | apply qf8 | refine qg8 ?_ GE288.out) | exact HB.out)⟩
  · replace c3 := Bool.eq_false_iff.mpr c3
    subst c3
    have H1 : (some false) = some r := by rw [if_neg (show ¬ (false = true) by decide)] at H; exact H
    clear H
    have H := H1
    clear H1
    obtain rfl := Option.some.inj H
    go_enter Tryd.func94, Tryd.ntmps94
    go_wp2_with (first | ((with_reducible refine gate_dst (N := 1) rfl ?_); refine box_event ?hg (N := 1) ?hd (cs := #[.string a0_0, .int .i64 a0_1]) (t := 62) ?hr ?_; (case hd => rfl); (case hg => rfl); (case hr => first | (go_simp; done) | (go_simp; rfl)); intro gb288 hg w7 hbox hb; have n0_ := qh8 (below_step (by repeat (first | (with_reducible first | exact HB.out | apply qd8 | apply qe8 | apply qf8) | exact HB.out)) hb); have n1_ := qh8 (hbox); have n2_ := qh8 ((by rw [hg]; exact (qi8 (by repeat (first | (with_reducible first | exact HB.out | apply qd8 | apply qe8 | apply qf8) | exact HB.out))) : w.heap.size ≤ gb288)); have n3_ := qh8 ((by rw [hg]; exact (qi8 (by repeat (first | (with_reducible first | exact HB.out | apply qd8 | apply qe8 | apply qf8) | exact HB.out))) : w.heap.size ≤ gb288)); clear HB; have HB := n0_; have BK288 := n1_; have GW288 := n2_; have GE288 := n3_; clear n0_ n1_ n2_ n3_; clear hb hbox hg; have hcz8_0 : w7.cell? ⟨gb288, 0, none⟩ = some (.string a0_0) := (blk_cell BK288.out 0).trans rfl; have hcz8_1 : w7.cell? ⟨gb288, 1, none⟩ = some (.int .i64 a0_1) := (blk_cell BK288.out 1).trans rfl; have hfz8_0 := blk_frozen BK288.out 0; have hfz8_1 := blk_frozen BK288.out 1) | ((with_reducible refine gate_callee (f := 64) rfl ?_); refine goesL_ (some 5) rfl rfl Tryd.func64 (by kernel_rfl) rfl #[.string a0_0] rfl (by (try simp only [List.map_toArray, List.map_cons, List.map_nil]); first | done | rfl | (simp only [List.length_drop, List.length_take]; rfl)) ?_; (with_reducible refine (impl_isHash.calls a0_0 false _ A2.out).mono ?_); rintro e w' ⟨rfl, ⟨nd, rfl⟩⟩; refine ⟨_, rfl, ?_⟩))
    go_ret
    exact ⟨by first | rfl | (simp [errW_none, errW_some] <;> rfl) | (simp [*, errW_none, errW_some] <;> rfl), by repeat (first | (with_reducible first | exact HB.out | apply qd8 | apply qe8 | apply qf8 | refine qg8 ?_ GE288.out) | exact HB.out)⟩

/-! ### impl_SignNext: function 50 -/
def impl_SignNext.f (k : Nat) (a0_0 : ByteArray) (a0_1 : Int) (a1 : ByteArray) : Option (ByteArray × Int × Int × List ByteArray × List ByteArray × List ByteArray × Int) := if (a1.size : Int) > 65530 then (some ((⟨#[]⟩ : ByteArray), 0, 0, ([] : List ByteArray), ([] : List ByteArray), ([] : List ByteArray), 2)) else ((impl_KeyChainOK.f a0_0 a0_1).bind fun t294 => (if t294 = true then (if a0_1 = 8 then (some (a0_0, a0_1, 0, ([] : List ByteArray), ([] : List ByteArray), ([] : List ByteArray), 13)) else ((impl_signAt.f k a0_0 a0_1 a1).bind fun bt295 => (some (a0_0, wrap64 (a0_1 + 1), bt295.1, bt295.2.1, bt295.2.2.1, bt295.2.2.2, 0)))) else (some ((⟨#[]⟩ : ByteArray), 0, 0, ([] : List ByteArray), ([] : List ByteArray), ([] : List ByteArray), 1))))
theorem impl_SignNext.mono : ∀ a0 a1 a2 k, LeO (impl_SignNext.f k a0 a1 a2) (impl_SignNext.f (k + 1) a0 a1 a2) := by
  intro a0 a1 a2 k
  unfold impl_SignNext.f
  repeat' first
      | (with_reducible exact impl_signAt.mono _ _ _ _)
      | (with_reducible exact LeO.refl _)
      | (with_reducible exact LeO.none _)
      | (with_reducible refine LeO.ite ?_ ?_)
      | (with_reducible refine LeO.bind ?_ (fun _ => ?_))
      | exact impl_signAt.mono _ _ _ _
      | exact LeO.none _
      | refine LeO.ite ?_ ?_
      | refine LeO.bind ?_ (fun _ => ?_)
def impl_SignNext.T7 : Bool × List (List Nat × List Nat) := (true, [([], []), ([0], [0]), ([], []), ([2], [2]), ([3], [3]), ([1, 4], [1, 4]), ([], []), ([6], [6]), ([], []), ([8], [8]), ([], []), ([7, 9, 10], [7, 9, 10]), ([5, 11, 0, 1, 2, 3, 4, 5], [5]), ([11, 12, 0, 1, 2, 3, 4, 5, 6, 7, 8, 9, 10, 11, 12], [11]), ([13, 0, 1, 2, 3, 4, 5, 6, 7, 8, 9, 10, 11, 12, 13], [])])
def impl_SignNext.B7 : List Nat := [0, 1, 0, 4, 12, 31, 0, 64, 0, 256, 0, 1984, 4095, 8191, 16383]
theorem impl_SignNext.tab7 : rtab .any (opsOf Tryd.f50 7) = impl_SignNext.T7 := by kernel_rfl
theorem impl_SignNext.bits7 : waitsOk impl_SignNext.T7.2 impl_SignNext.B7 = true := by kernel_rfl
set_option maxHeartbeats 8000000 in
set_option maxRecDepth 100000 in
theorem impl_SignNext.calls (k : Nat) (a0_0 : ByteArray) (a0_1 : Int) (a1 : ByteArray) (r1 : ByteArray) (r2 : Int) (r3 : Int) (r4 : List ByteArray) (r5 : List ByteArray) (r6 : List ByteArray) (r7 : Int) (w : World) (hG_ : Go.Proofs.YtgknilganicofaaDoor.Sha.GlobA w) (h : impl_SignNext.f k a0_0 a0_1 a1 = some (r1, r2, r3, r4, r5, r6, r7)) :
    Calls Tryd.prog 50 #[.agg #[.string a0_0, .int .i64 a0_1], .string a1] w fun e w' => ∃ v3_ v4_ v5_ : Value, e = .returned (.tuple #[.agg #[.string r1, .int .i64 r2], .agg #[.int .i64 r3, v3_, v4_, v5_], .int .i64 r7]) ∧ Kd.R Kd.string 9 w' w.heap.size (fun k_ => some k_ ≠ (v4_ : Value).ownBlock ∧ some k_ ≠ (v5_ : Value).ownBlock) v3_ r4 ∧ Kd.R Kd.string 9 w' w.heap.size (fun k_ => some k_ ≠ (v3_ : Value).ownBlock ∧ some k_ ≠ (v5_ : Value).ownBlock) v4_ r5 ∧ Kd.R Kd.string 9 w' w.heap.size (fun k_ => some k_ ≠ (v3_ : Value).ownBlock ∧ some k_ ≠ (v4_ : Value).ownBlock) v5_ r6 ∧ Below w.heap.size w w' := by
  have hu62 := Tryd.underlying62
  have hu51 := Tryd.underlying51
  have HB := qh8 (Below.refl w.heap.size w)
  have H : (if (a1.size : Int) > 65530 then (some ((⟨#[]⟩ : ByteArray), 0, 0, ([] : List ByteArray), ([] : List ByteArray), ([] : List ByteArray), 2)) else ((impl_KeyChainOK.f a0_0 a0_1).bind fun t294 => (if t294 = true then (if a0_1 = 8 then (some (a0_0, a0_1, 0, ([] : List ByteArray), ([] : List ByteArray), ([] : List ByteArray), 13)) else ((impl_signAt.f k a0_0 a0_1 a1).bind fun bt295 => (some (a0_0, wrap64 (a0_1 + 1), bt295.1, bt295.2.1, bt295.2.2.1, bt295.2.2.2, 0)))) else (some ((⟨#[]⟩ : ByteArray), 0, 0, ([] : List ByteArray), ([] : List ByteArray), ([] : List ByteArray), 1))))) = some (r1, r2, r3, r4, r5, r6, r7) := h
  clear h
  by_cases c3 : (a1.size : Int) > 65530
  · rw [if_pos c3] at H
    have c3b0 : decide (65530 < (a1.size : Int)) = true := decide_eq_true c3
    have c3b1 : decide (65530 < a1.size) = true := decide_eq_true (by omega)
    clear c3
    simp only [Option.some.injEq, Prod.mk.injEq] at H
    obtain ⟨rfl, rfl, rfl, rfl, rfl, rfl, rfl⟩ := H
    go_enter Tryd.func50, Tryd.ntmps50
    go_wp2_with (first | ((with_reducible refine gate_dst (N := 2) rfl ?_); refine box_event ?hg (N := 2) ?hd (cs := #[.string a0_0, .int .i64 a0_1]) (t := 62) ?hr ?_; (case hd => rfl); (case hg => rfl); (case hr => first | (go_simp; done) | (go_simp; rfl)); intro gb291 hg w4 hbox hb; have n0_ := qh8 (below_step (by repeat (first | (with_reducible first | exact HB.out | apply qd8 | apply qe8 | apply qf8) | exact HB.out)) hb); have n1_ := qh8 (hbox); have n2_ := qh8 ((by rw [hg]; exact (qi8 (by repeat (first | (with_reducible first | exact HB.out | apply qd8 | apply qe8 | apply qf8) | exact HB.out))) : w.heap.size ≤ gb291)); have n3_ := qh8 ((by rw [hg]; exact (qi8 (by repeat (first | (with_reducible first | exact HB.out | apply qd8 | apply qe8 | apply qf8) | exact HB.out))) : w.heap.size ≤ gb291)); clear HB; have HB := n0_; have BK291 := n1_; have GW291 := n2_; have GE291 := n3_; clear n0_ n1_ n2_ n3_; clear hb hbox hg) | ((with_reducible refine gate_dst (N := 4) rfl ?_); refine box_event ?hg (N := 4) ?hd (cs := #[.string (⟨#[]⟩ : ByteArray), .int .i64 0]) (t := 62) ?hr ?_; (case hd => rfl); (case hg => rfl); (case hr => first | (go_simp; done) | (go_simp; rfl)); intro gb292 hg w5 hbox hb; have n0_ := qh8 (blk_below (g := gb291) (o := .cells #[.string a0_0, .int .i64 a0_1] 62 (0, 0)) (by (with_reducible repeat (first | apply qa8 | apply qb8 | apply qc8)); exact BK291.out) hb); have n1_ := qh8 (below_step (by repeat (first | (with_reducible first | exact HB.out | apply qd8 | apply qe8 | apply qf8 | refine qg8 ?_ GE291.out) | exact HB.out)) hb); have n2_ := qh8 (hbox); have n3_ := qh8 ((by rw [hg]; exact (qi8 (by repeat (first | (with_reducible first | exact HB.out | apply qd8 | apply qe8 | apply qf8 | refine qg8 ?_ GE291.out) | exact HB.out))) : w.heap.size ≤ gb292)); have n4_ := qh8 ((by rw [hg]; exact (qi8 (by repeat (first | (with_reducible first | exact HB.out | apply qd8 | apply qe8 | apply qf8 | refine qg8 ?_ GE291.out) | exact HB.out))) : w.heap.size ≤ gb292)); have n5_ := qh8 ((by rw [hg]; exact Nat.ne_of_lt (blk_lt (g := gb291) (o := .cells #[.string a0_0, .int .i64 a0_1] 62 (0, 0)) (by (with_reducible repeat (first | apply qa8 | apply qb8 | apply qc8)); exact BK291.out)) : gb291 ≠ gb292)); have n6_ := qh8 ((by rw [hg]; exact Nat.ne_of_gt (blk_lt (g := gb291) (o := .cells #[.string a0_0, .int .i64 a0_1] 62 (0, 0)) (by (with_reducible repeat (first | apply qa8 | apply qb8 | apply qc8)); exact BK291.out)) : gb292 ≠ gb291)); clear BK291; clear HB; have BK291 := n0_; have HB := n1_; have BK292 := n2_; have GW292 := n3_; have GE292 := n4_; have NB291_292 := n5_; have NB292_291 := n6_; clear n0_ n1_ n2_ n3_ n4_ n5_ n6_; clear hb hbox hg) | ((with_reducible refine gate_dst (N := 5) rfl ?_); refine box_event ?hg (N := 5) ?hd (cs := #[.int .i64 0, .slice none 0 0, .slice none 0 0, .slice none 0 0]) (t := 51) ?hr ?_; (case hd => rfl); (case hg => rfl); (case hr => first | (go_simp; done) | (go_simp; rfl)); intro gb293 hg w6 hbox hb; have n0_ := qh8 (blk_below (g := gb291) (o := .cells #[.string a0_0, .int .i64 a0_1] 62 (0, 0)) (by (with_reducible repeat (first | apply qa8 | apply qb8 | apply qc8)); exact BK291.out) hb); have n1_ := qh8 (blk_below (g := gb292) (o := .cells #[.string (⟨#[]⟩ : ByteArray), .int .i64 0] 62 (0, 0)) (by (with_reducible repeat (first | apply qa8 | apply qb8 | apply qc8)); exact BK292.out) hb); have n2_ := qh8 (below_step (by repeat (first | (with_reducible first | exact HB.out | apply qd8 | apply qe8 | apply qf8 | refine qg8 ?_ GE291.out | refine qg8 ?_ GE292.out) | exact HB.out)) hb); have n3_ := qh8 (hbox); have n4_ := qh8 ((by rw [hg]; exact (qi8 (by repeat (first | (with_reducible first | exact HB.out | apply qd8 | apply qe8 | apply qf8 | refine qg8 ?_ GE291.out | refine qg8 ?_ GE292.out) | exact HB.out))) : w.heap.size ≤ gb293)); have n5_ := qh8 ((by rw [hg]; exact (qi8 (by repeat (first | (with_reducible first | exact HB.out | apply qd8 | apply qe8 | apply qf8 | refine qg8 ?_ GE291.out | refine qg8 ?_ GE292.out) | exact HB.out))) : w.heap.size ≤ gb293)); have n6_ := qh8 ((by rw [hg]; exact Nat.ne_of_lt (blk_lt (g := gb291) (o := .cells #[.string a0_0, .int .i64 a0_1] 62 (0, 0)) (by (with_reducible repeat (first | apply qa8 | apply qb8 | apply qc8)); exact BK291.out)) : gb291 ≠ gb293)); have n7_ := qh8 ((by rw [hg]; exact Nat.ne_of_gt (blk_lt (g := gb291) (o := .cells #[.string a0_0, .int .i64 a0_1] 62 (0, 0)) (by (with_reducible repeat (first | apply qa8 | apply qb8 | apply qc8)); exact BK291.out)) : gb293 ≠ gb291)); have n8_ := qh8 ((by rw [hg]; exact Nat.ne_of_lt (blk_lt (g := gb292) (o := .cells #[.string (⟨#[]⟩ : ByteArray), .int .i64 0] 62 (0, 0)) (by (with_reducible repeat (first | apply qa8 | apply qb8 | apply qc8)); exact BK292.out)) : gb292 ≠ gb293)); have n9_ := qh8 ((by rw [hg]; exact Nat.ne_of_gt (blk_lt (g := gb292) (o := .cells #[.string (⟨#[]⟩ : ByteArray), .int .i64 0] 62 (0, 0)) (by (with_reducible repeat (first | apply qa8 | apply qb8 | apply qc8)); exact BK292.out)) : gb293 ≠ gb292)); clear BK291; clear BK292; clear HB; have BK291 := n0_; have BK292 := n1_; have HB := n2_; have BK293 := n3_; have GW293 := n4_; have GE293 := n5_; have NB291_293 := n6_; have NB293_291 := n7_; have NB292_293 := n8_; have NB293_292 := n9_; clear n0_ n1_ n2_ n3_ n4_ n5_ n6_ n7_ n8_ n9_; clear hb hbox hg; have hnb7 := NB292_291.out; have hnc7 := NB291_292.out; have hnb8 := NB292_293.out; have hnc8 := NB293_292.out; have hcz9_0 : w6.cell? ⟨gb292, 0, none⟩ = some (.string (⟨#[]⟩ : ByteArray)) := (blk_cell BK292.out 0).trans rfl; have hcz9_1 : w6.cell? ⟨gb292, 1, none⟩ = some (.int .i64 0) := (blk_cell BK292.out 1).trans rfl; have hfz9_0 := blk_frozen BK292.out 0; have hfz9_1 := blk_frozen BK292.out 1; have hnb10 := NB293_291.out; have hnc10 := NB291_293.out; have hcz11_0 : w6.cell? ⟨gb293, 0, none⟩ = some (.int .i64 0) := (blk_cell BK293.out 0).trans rfl; have hcz11_1 : w6.cell? ⟨gb293, 1, none⟩ = some (.slice none 0 0) := (blk_cell BK293.out 1).trans rfl; have hcz11_2 : w6.cell? ⟨gb293, 2, none⟩ = some (.slice none 0 0) := (blk_cell BK293.out 2).trans rfl; have hcz11_3 : w6.cell? ⟨gb293, 3, none⟩ = some (.slice none 0 0) := (blk_cell BK293.out 3).trans rfl; have hfz11_0 := blk_frozen BK293.out 0; have hfz11_1 := blk_frozen BK293.out 1; have hfz11_2 := blk_frozen BK293.out 2; have hfz11_3 := blk_frozen BK293.out 3))
    refine bodyPost_ret (results_list (rs := [.cell 4 62, .cell 5 51, .tmp 6]) rfl (by simp) (.cell gb292 62 #[.string (⟨#[]⟩ : ByteArray), .int .i64 0] (0, 0) _ rfl (by (with_reducible repeat (first | apply qa8 | apply qb8 | apply qc8)); refine blk_far ?_ NB292_293.out _; (with_reducible repeat (first | apply qa8 | apply qb8 | apply qc8)); refine blk_far ?_ NB292_293.out _; (with_reducible repeat (first | apply qa8 | apply qb8 | apply qc8)); refine blk_far ?_ NB292_293.out _; (with_reducible repeat (first | apply qa8 | apply qb8 | apply qc8)); refine blk_far ?_ NB292_293.out _; (with_reducible repeat (first | apply qa8 | apply qb8 | apply qc8)); refine blk_put (cs := #[.string (⟨#[]⟩ : ByteArray), .int .i64 0]) ?_ 1 _ rfl; (with_reducible repeat (first | apply qa8 | apply qb8 | apply qc8)); refine blk_put (cs := #[.string (⟨#[]⟩ : ByteArray), .int .i64 0]) ?_ 0 _ rfl; (with_reducible repeat (first | apply qa8 | apply qb8 | apply qc8)); exact BK292.out) Tryd.underlying62 rfl (by kernel_rfl) (.cell gb293 51 #[.int .i64 0, .slice none 0 0, .slice none 0 0, .slice none 0 0] (0, 0) _ rfl (by (with_reducible repeat (first | apply qa8 | apply qb8 | apply qc8)); refine blk_put (cs := #[.int .i64 0, .slice none 0 0, .slice none 0 0, .slice none 0 0]) ?_ 3 _ rfl; (with_reducible repeat (first | apply qa8 | apply qb8 | apply qc8)); refine blk_put (cs := #[.int .i64 0, .slice none 0 0, .slice none 0 0, .slice none 0 0]) ?_ 2 _ rfl; (with_reducible repeat (first | apply qa8 | apply qb8 | apply qc8)); refine blk_put (cs := #[.int .i64 0, .slice none 0 0, .slice none 0 0, .slice none 0 0]) ?_ 1 _ rfl; (with_reducible repeat (first | apply qa8 | apply qb8 | apply qc8)); refine blk_put (cs := #[.int .i64 0, .slice none 0 0, .slice none 0 0, .slice none 0 0]) ?_ 0 _ rfl; (with_reducible repeat (first | apply qa8 | apply qb8 | apply qc8)); refine blk_far ?_ NB293_292.out _; (with_reducible repeat (first | apply qa8 | apply qb8 | apply qc8)); refine blk_far ?_ NB293_292.out _; (with_reducible repeat (first | apply qa8 | apply qb8 | apply qc8)); exact BK293.out) Tryd.underlying51 rfl (by kernel_rfl) (.tmp .nil)))) rfl ?_
    exact ⟨_, _, _, by first | rfl | (simp [errW_none, errW_some] <;> rfl) | (simp [*, errW_none, errW_some] <;> rfl), by first | exact Kd.R_nil _ _ _ _ _ | exact Kd.N_nil _ _ _ _ _ | exact Kd.V_nil _ _ _ _ _ | exact Kd.Q_nil _ _ _ _ _ | exact Kd.S_nil _ _ _ _ _, by first | exact Kd.R_nil _ _ _ _ _ | exact Kd.N_nil _ _ _ _ _ | exact Kd.V_nil _ _ _ _ _ | exact Kd.Q_nil _ _ _ _ _ | exact Kd.S_nil _ _ _ _ _, by first | exact Kd.R_nil _ _ _ _ _ | exact Kd.N_nil _ _ _ _ _ | exact Kd.V_nil _ _ _ _ _ | exact Kd.Q_nil _ _ _ _ _ | exact Kd.S_nil _ _ _ _ _, by repeat (first | (with_reducible first | exact HB.out | apply qd8 | apply qe8 | apply qf8 | refine qg8 ?_ GE291.out | refine qg8 ?_ GE292.out | refine qg8 ?_ GE293.out) | exact HB.out)⟩
  · rw [if_neg c3] at H
    have c3b0 : decide (65530 < (a1.size : Int)) = false := decide_eq_false c3
    have c3b1 : decide (65530 < a1.size) = false := decide_eq_false (by omega)
    clear c3
    replace H := Option.bind_eq_some_iff.mp H
    obtain ⟨t294, A120, H⟩ := H
    replace H : (if t294 = true then (if a0_1 = 8 then (some (a0_0, a0_1, 0, ([] : List ByteArray), ([] : List ByteArray), ([] : List ByteArray), 13)) else ((impl_signAt.f k a0_0 a0_1 a1).bind fun bt295 => (some (a0_0, wrap64 (a0_1 + 1), bt295.1, bt295.2.1, bt295.2.2.1, bt295.2.2.2, 0)))) else (some ((⟨#[]⟩ : ByteArray), 0, 0, ([] : List ByteArray), ([] : List ByteArray), ([] : List ByteArray), 1))) = some (r1, r2, r3, r4, r5, r6, r7) := H
    have A12 := qh8 A120
    clear A120
    by_cases c13 : t294 = true
    · subst c13
      have H1 : (if a0_1 = 8 then (some (a0_0, a0_1, 0, ([] : List ByteArray), ([] : List ByteArray), ([] : List ByteArray), 13)) else ((impl_signAt.f k a0_0 a0_1 a1).bind fun bt295 => (some (a0_0, wrap64 (a0_1 + 1), bt295.1, bt295.2.1, bt295.2.2.1, bt295.2.2.2, 0)))) = some (r1, r2, r3, r4, r5, r6, r7) := by rw [if_pos rfl] at H; exact H
      clear H
      have H := H1
      clear H1
      by_cases c14 : a0_1 = 8
      · rw [if_pos c14] at H
        have c14b0 : (a0_1 == 8) = true := beq_iff_eq.mpr c14
        have c14b1 : (a0_1 != 8) = false := bne_eq_false_iff_eq.mpr c14
        clear c14
        simp only [Option.some.injEq, Prod.mk.injEq] at H
        obtain ⟨rfl, rfl, rfl, rfl, rfl, rfl, rfl⟩ := H
        go_enter Tryd.func50, Tryd.ntmps50
        go_wp2_with (first | ((with_reducible refine gate_dst (N := 2) rfl ?_); refine box_event ?hg (N := 2) ?hd (cs := #[.string a0_0, .int .i64 a0_1]) (t := 62) ?hr ?_; (case hd => rfl); (case hg => rfl); (case hr => first | (go_simp; done) | (go_simp; rfl)); intro gb291 hg w15 hbox hb; have n0_ := qh8 (below_step (by repeat (first | (with_reducible first | exact HB.out | apply qd8 | apply qe8 | apply qf8) | exact HB.out)) hb); have n1_ := qh8 (hbox); have n2_ := qh8 ((by rw [hg]; exact (qi8 (by repeat (first | (with_reducible first | exact HB.out | apply qd8 | apply qe8 | apply qf8) | exact HB.out))) : w.heap.size ≤ gb291)); have n3_ := qh8 ((by rw [hg]; exact (qi8 (by repeat (first | (with_reducible first | exact HB.out | apply qd8 | apply qe8 | apply qf8) | exact HB.out))) : w.heap.size ≤ gb291)); clear HB; have HB := n0_; have BK291 := n1_; have GW291 := n2_; have GE291 := n3_; clear n0_ n1_ n2_ n3_; clear hb hbox hg) | ((with_reducible refine gate_dst (N := 4) rfl ?_); refine box_event ?hg (N := 4) ?hd (cs := #[.string (⟨#[]⟩ : ByteArray), .int .i64 0]) (t := 62) ?hr ?_; (case hd => rfl); (case hg => rfl); (case hr => first | (go_simp; done) | (go_simp; rfl)); intro gb292 hg w16 hbox hb; have n0_ := qh8 (blk_below (g := gb291) (o := .cells #[.string a0_0, .int .i64 a0_1] 62 (0, 0)) (by (with_reducible repeat (first | apply qa8 | apply qb8 | apply qc8)); exact BK291.out) hb); have n1_ := qh8 (below_step (by repeat (first | (with_reducible first | exact HB.out | apply qd8 | apply qe8 | apply qf8 | refine qg8 ?_ GE291.out) | exact HB.out)) hb); have n2_ := qh8 (hbox); have n3_ := qh8 ((by rw [hg]; exact (qi8 (by repeat (first | (with_reducible first | exact HB.out | apply qd8 | apply qe8 | apply qf8 | refine qg8 ?_ GE291.out) | exact HB.out))) : w.heap.size ≤ gb292)); have n4_ := qh8 ((by rw [hg]; exact (qi8 (by repeat (first | (with_reducible first | exact HB.out | apply qd8 | apply qe8 | apply qf8 | refine qg8 ?_ GE291.out) | exact HB.out))) : w.heap.size ≤ gb292)); have n5_ := qh8 ((by rw [hg]; exact Nat.ne_of_lt (blk_lt (g := gb291) (o := .cells #[.string a0_0, .int .i64 a0_1] 62 (0, 0)) (by (with_reducible repeat (first | apply qa8 | apply qb8 | apply qc8)); exact BK291.out)) : gb291 ≠ gb292)); have n6_ := qh8 ((by rw [hg]; exact Nat.ne_of_gt (blk_lt (g := gb291) (o := .cells #[.string a0_0, .int .i64 a0_1] 62 (0, 0)) (by (with_reducible repeat (first | apply qa8 | apply qb8 | apply qc8)); exact BK291.out)) : gb292 ≠ gb291)); clear BK291; clear HB; have BK291 := n0_; have HB := n1_; have BK292 := n2_; have GW292 := n3_; have GE292 := n4_; have NB291_292 := n5_; have NB292_291 := n6_; clear n0_ n1_ n2_ n3_ n4_ n5_ n6_; clear hb hbox hg) | ((with_reducible refine gate_dst (N := 5) rfl ?_); refine box_event ?hg (N := 5) ?hd (cs := #[.int .i64 0, .slice none 0 0, .slice none 0 0, .slice none 0 0]) (t := 51) ?hr ?_; (case hd => rfl); (case hg => rfl); (case hr => first | (go_simp; done) | (go_simp; rfl)); intro gb293 hg w17 hbox hb; have n0_ := qh8 (blk_below (g := gb291) (o := .cells #[.string a0_0, .int .i64 a0_1] 62 (0, 0)) (by (with_reducible repeat (first | apply qa8 | apply qb8 | apply qc8)); exact BK291.out) hb); have n1_ := qh8 (blk_below (g := gb292) (o := .cells #[.string (⟨#[]⟩ : ByteArray), .int .i64 0] 62 (0, 0)) (by (with_reducible repeat (first | apply qa8 | apply qb8 | apply qc8)); exact BK292.out) hb); have n2_ := qh8 (below_step (by repeat (first | (with_reducible first | exact HB.out | apply qd8 | apply qe8 | apply qf8 | refine qg8 ?_ GE291.out | refine qg8 ?_ GE292.out) | exact HB.out)) hb); have n3_ := qh8 (hbox); have n4_ := qh8 ((by rw [hg]; exact (qi8 (by repeat (first | (with_reducible first | exact HB.out | apply qd8 | apply qe8 | apply qf8 | refine qg8 ?_ GE291.out | refine qg8 ?_ GE292.out) | exact HB.out))) : w.heap.size ≤ gb293)); have n5_ := qh8 ((by rw [hg]; exact (qi8 (by repeat (first | (with_reducible first | exact HB.out | apply qd8 | apply qe8 | apply qf8 | refine qg8 ?_ GE291.out | refine qg8 ?_ GE292.out) | exact HB.out))) : w.heap.size ≤ gb293)); have n6_ := qh8 ((by rw [hg]; exact Nat.ne_of_lt (blk_lt (g := gb291) (o := .cells #[.string a0_0, .int .i64 a0_1] 62 (0, 0)) (by (with_reducible repeat (first | apply qa8 | apply qb8 | apply qc8)); exact BK291.out)) : gb291 ≠ gb293)); have n7_ := qh8 ((by rw [hg]; exact Nat.ne_of_gt (blk_lt (g := gb291) (o := .cells #[.string a0_0, .int .i64 a0_1] 62 (0, 0)) (by (with_reducible repeat (first | apply qa8 | apply qb8 | apply qc8)); exact BK291.out)) : gb293 ≠ gb291)); have n8_ := qh8 ((by rw [hg]; exact Nat.ne_of_lt (blk_lt (g := gb292) (o := .cells #[.string (⟨#[]⟩ : ByteArray), .int .i64 0] 62 (0, 0)) (by (with_reducible repeat (first | apply qa8 | apply qb8 | apply qc8)); exact BK292.out)) : gb292 ≠ gb293)); have n9_ := qh8 ((by rw [hg]; exact Nat.ne_of_gt (blk_lt (g := gb292) (o := .cells #[.string (⟨#[]⟩ : ByteArray), .int .i64 0] 62 (0, 0)) (by (with_reducible repeat (first | apply qa8 | apply qb8 | apply qc8)); exact BK292.out)) : gb293 ≠ gb292)); clear BK291; clear BK292; clear HB; have BK291 := n0_; have BK292 := n1_; have HB := n2_; have BK293 := n3_; have GW293 := n4_; have GE293 := n5_; have NB291_293 := n6_; have NB293_291 := n7_; have NB292_293 := n8_; have NB293_292 := n9_; clear n0_ n1_ n2_ n3_ n4_ n5_ n6_ n7_ n8_ n9_; clear hb hbox hg; have hnb18 := NB291_292.out; have hnc18 := NB292_291.out; have hnb19 := NB291_293.out; have hnc19 := NB293_291.out; have hcz20_0 : w17.cell? ⟨gb291, 0, none⟩ = some (.string a0_0) := (blk_cell BK291.out 0).trans rfl; have hcz20_1 : w17.cell? ⟨gb291, 1, none⟩ = some (.int .i64 a0_1) := (blk_cell BK291.out 1).trans rfl; have hfz20_0 := blk_frozen BK291.out 0; have hfz20_1 := blk_frozen BK291.out 1) | ((with_reducible refine gate_callee (f := 94) rfl ?_); refine goesL_ (some 15) rfl rfl Tryd.func94 (by kernel_rfl) rfl #[.agg #[.string a0_0, .int .i64 a0_1]] rfl (by (try simp only [List.map_toArray, List.map_cons, List.map_nil]); first | done | rfl | (simp only [List.length_drop, List.length_take]; rfl)) ?_; (with_reducible refine (impl_KeyChainOK.calls a0_0 a0_1 true _ A12.out).mono ?_); rintro e w21 ⟨rfl, hb⟩; refine ⟨_, rfl, ?_⟩; have n0_ := qh8 (blk_below (g := gb291) (o := .cells #[.string a0_0, .int .i64 a0_1] 62 (0, 0)) (by (with_reducible repeat (first | apply qa8 | apply qb8 | apply qc8)); exact BK291.out) hb); have n1_ := qh8 (blk_below (g := gb292) (o := .cells #[.string (⟨#[]⟩ : ByteArray), .int .i64 0] 62 (0, 0)) (by (with_reducible repeat (first | apply qa8 | apply qb8 | apply qc8)); exact BK292.out) hb); have n2_ := qh8 (blk_below (g := gb293) (o := .cells #[.int .i64 0, .slice none 0 0, .slice none 0 0, .slice none 0 0] 51 (0, 0)) (by (with_reducible repeat (first | apply qa8 | apply qb8 | apply qc8)); exact BK293.out) hb); have n3_ := qh8 (below_step (by repeat (first | (with_reducible first | exact HB.out | apply qd8 | apply qe8 | apply qf8 | refine qg8 ?_ GE291.out | refine qg8 ?_ GE292.out | refine qg8 ?_ GE293.out) | exact HB.out)) hb); clear BK291; clear BK292; clear BK293; clear HB; have BK291 := n0_; have BK292 := n1_; have BK293 := n2_; have HB := n3_; clear n0_ n1_ n2_ n3_; (try clear hb); (try clear hb2); (try clear hk); (try clear hi); have hcz22_0 : w21.cell? ⟨gb291, 0, none⟩ = some (.string a0_0) := (blk_cell BK291.out 0).trans rfl; have hcz22_1 : w21.cell? ⟨gb291, 1, none⟩ = some (.int .i64 a0_1) := (blk_cell BK291.out 1).trans rfl; have hfz22_0 := blk_frozen BK291.out 0; have hfz22_1 := blk_frozen BK291.out 1; have hnb23 := NB292_293.out; have hnc23 := NB293_292.out; have hcz24_0 : w21.cell? ⟨gb292, 0, none⟩ = some (.string (⟨#[]⟩ : ByteArray)) := (blk_cell BK292.out 0).trans rfl; have hcz24_1 : w21.cell? ⟨gb292, 1, none⟩ = some (.int .i64 0) := (blk_cell BK292.out 1).trans rfl; have hfz24_0 := blk_frozen BK292.out 0; have hfz24_1 := blk_frozen BK292.out 1; have hcz25_0 : w21.cell? ⟨gb293, 0, none⟩ = some (.int .i64 0) := (blk_cell BK293.out 0).trans rfl; have hcz25_1 : w21.cell? ⟨gb293, 1, none⟩ = some (.slice none 0 0) := (blk_cell BK293.out 1).trans rfl; have hcz25_2 : w21.cell? ⟨gb293, 2, none⟩ = some (.slice none 0 0) := (blk_cell BK293.out 2).trans rfl; have hcz25_3 : w21.cell? ⟨gb293, 3, none⟩ = some (.slice none 0 0) := (blk_cell BK293.out 3).trans rfl; have hfz25_0 := blk_frozen BK293.out 0; have hfz25_1 := blk_frozen BK293.out 1; have hfz25_2 := blk_frozen BK293.out 2; have hfz25_3 := blk_frozen BK293.out 3))
        refine bodyPost_ret (results_list (rs := [.cell 4 62, .cell 5 51, .tmp 6]) rfl (by simp) (.cell gb292 62 #[.string a0_0, .int .i64 a0_1] (0, 0) _ rfl (by (with_reducible repeat (first | apply qa8 | apply qb8 | apply qc8)); refine blk_far ?_ NB292_293.out _; (with_reducible repeat (first | apply qa8 | apply qb8 | apply qc8)); refine blk_far ?_ NB292_293.out _; (with_reducible repeat (first | apply qa8 | apply qb8 | apply qc8)); refine blk_far ?_ NB292_293.out _; (with_reducible repeat (first | apply qa8 | apply qb8 | apply qc8)); refine blk_far ?_ NB292_293.out _; (with_reducible repeat (first | apply qa8 | apply qb8 | apply qc8)); refine blk_put (cs := #[.string a0_0, .int .i64 0]) ?_ 1 _ rfl; (with_reducible repeat (first | apply qa8 | apply qb8 | apply qc8)); refine blk_put (cs := #[.string (⟨#[]⟩ : ByteArray), .int .i64 0]) ?_ 0 _ rfl; (with_reducible repeat (first | apply qa8 | apply qb8 | apply qc8)); exact BK292.out) Tryd.underlying62 rfl (by kernel_rfl) (.cell gb293 51 #[.int .i64 0, .slice none 0 0, .slice none 0 0, .slice none 0 0] (0, 0) _ rfl (by (with_reducible repeat (first | apply qa8 | apply qb8 | apply qc8)); refine blk_put (cs := #[.int .i64 0, .slice none 0 0, .slice none 0 0, .slice none 0 0]) ?_ 3 _ rfl; (with_reducible repeat (first | apply qa8 | apply qb8 | apply qc8)); refine blk_put (cs := #[.int .i64 0, .slice none 0 0, .slice none 0 0, .slice none 0 0]) ?_ 2 _ rfl; (with_reducible repeat (first | apply qa8 | apply qb8 | apply qc8)); refine blk_put (cs := #[.int .i64 0, .slice none 0 0, .slice none 0 0, .slice none 0 0]) ?_ 1 _ rfl; (with_reducible repeat (first | apply qa8 | apply qb8 | apply qc8)); refine blk_put (cs := #[.int .i64 0, .slice none 0 0, .slice none 0 0, .slice none 0 0]) ?_ 0 _ rfl; (with_reducible repeat (first | apply qa8 | apply qb8 | apply qc8)); refine blk_far ?_ NB293_292.out _; (with_reducible repeat (first | apply qa8 | apply qb8 | apply qc8)); refine blk_far ?_ NB293_292.out _; (with_reducible repeat (first | apply qa8 | apply qb8 | apply qc8)); exact BK293.out) Tryd.underlying51 rfl (by kernel_rfl) (.tmp .nil)))) rfl ?_
        exact ⟨_, _, _, by first | rfl | (simp [errW_none, errW_some] <;> rfl) | (simp [*, errW_none, errW_some] <;> rfl), by first | exact Kd.R_nil _ _ _ _ _ | exact Kd.N_nil _ _ _ _ _ | exact Kd.V_nil _ _ _ _ _ | exact Kd.Q_nil _ _ _ _ _ | exact Kd.S_nil _ _ _ _ _, by first | exact Kd.R_nil _ _ _ _ _ | exact Kd.N_nil _ _ _ _ _ | exact Kd.V_nil _ _ _ _ _ | exact Kd.Q_nil _ _ _ _ _ | exact Kd.S_nil _ _ _ _ _, by first | exact Kd.R_nil _ _ _ _ _ | exact Kd.N_nil _ _ _ _ _ | exact Kd.V_nil _ _ _ _ _ | exact Kd.Q_nil _ _ _ _ _ | exact Kd.S_nil _ _ _ _ _, by repeat (first | (with_reducible first | exact HB.out | apply qd8 | apply qe8 | apply qf8 | refine qg8 ?_ GE291.out | refine qg8 ?_ GE292.out | refine qg8 ?_ GE293.out) | exact HB.out)⟩
      · rw [if_neg c14] at H
        have c14b0 : (a0_1 == 8) = false := beq_eq_false_iff_ne.mpr c14
        have c14b1 : (a0_1 != 8) = true := bne_iff_ne.mpr c14
        replace H := Option.bind_eq_some_iff.mp H
        obtain ⟨⟨t295, t296, t299, t302⟩, A260, H⟩ := H
        replace H : (some (a0_0, wrap64 (a0_1 + 1), t295, t296, t299, t302, 0)) = some (r1, r2, r3, r4, r5, r6, r7) := H
        have A26 := qh8 A260
        clear A260
        simp only [Option.some.injEq, Prod.mk.injEq] at H
        obtain ⟨rfl, rfl, rfl, rfl, rfl, rfl, rfl⟩ := H
        go_enter Tryd.func50, Tryd.ntmps50
        try go_wp2_with (first | ((with_reducible refine gate_dst (N := 2) rfl ?_); refine box_event ?hg (N := 2) ?hd (cs := #[.string a0_0, .int .i64 a0_1]) (t := 62) ?hr ?_; (case hd => rfl); (case hg => rfl); (case hr => first | (go_simp; done) | (go_simp; rfl)); intro gb291 hg w27 hbox hb; have n0_ := qh8 (below_step (by repeat (first | (with_reducible first | exact HB.out | apply qd8 | apply qe8 | apply qf8) | exact HB.out)) hb); have n1_ := qh8 (hbox); have n2_ := qh8 ((by rw [hg]; exact (qi8 (by repeat (first | (with_reducible first | exact HB.out | apply qd8 | apply qe8 | apply qf8) | exact HB.out))) : w.heap.size ≤ gb291)); have n3_ := qh8 ((by rw [hg]; exact (qi8 (by repeat (first | (with_reducible first | exact HB.out | apply qd8 | apply qe8 | apply qf8) | exact HB.out))) : w.heap.size ≤ gb291)); clear HB; have HB := n0_; have BK291 := n1_; have GW291 := n2_; have GE291 := n3_; clear n0_ n1_ n2_ n3_; clear hb hbox hg) | ((with_reducible refine gate_dst (N := 4) rfl ?_); refine box_event ?hg (N := 4) ?hd (cs := #[.string (⟨#[]⟩ : ByteArray), .int .i64 0]) (t := 62) ?hr ?_; (case hd => rfl); (case hg => rfl); (case hr => first | (go_simp; done) | (go_simp; rfl)); intro gb292 hg w28 hbox hb; have n0_ := qh8 (blk_below (g := gb291) (o := .cells #[.string a0_0, .int .i64 a0_1] 62 (0, 0)) (by (with_reducible repeat (first | apply qa8 | apply qb8 | apply qc8)); exact BK291.out) hb); have n1_ := qh8 (below_step (by repeat (first | (with_reducible first | exact HB.out | apply qd8 | apply qe8 | apply qf8 | refine qg8 ?_ GE291.out) | exact HB.out)) hb); have n2_ := qh8 (hbox); have n3_ := qh8 ((by rw [hg]; exact (qi8 (by repeat (first | (with_reducible first | exact HB.out | apply qd8 | apply qe8 | apply qf8 | refine qg8 ?_ GE291.out) | exact HB.out))) : w.heap.size ≤ gb292)); have n4_ := qh8 ((by rw [hg]; exact (qi8 (by repeat (first | (with_reducible first | exact HB.out | apply qd8 | apply qe8 | apply qf8 | refine qg8 ?_ GE291.out) | exact HB.out))) : w.heap.size ≤ gb292)); have n5_ := qh8 ((by rw [hg]; exact Nat.ne_of_lt (blk_lt (g := gb291) (o := .cells #[.string a0_0, .int .i64 a0_1] 62 (0, 0)) (by (with_reducible repeat (first | apply qa8 | apply qb8 | apply qc8)); exact BK291.out)) : gb291 ≠ gb292)); have n6_ := qh8 ((by rw [hg]; exact Nat.ne_of_gt (blk_lt (g := gb291) (o := .cells #[.string a0_0, .int .i64 a0_1] 62 (0, 0)) (by (with_reducible repeat (first | apply qa8 | apply qb8 | apply qc8)); exact BK291.out)) : gb292 ≠ gb291)); clear BK291; clear HB; have BK291 := n0_; have HB := n1_; have BK292 := n2_; have GW292 := n3_; have GE292 := n4_; have NB291_292 := n5_; have NB292_291 := n6_; clear n0_ n1_ n2_ n3_ n4_ n5_ n6_; clear hb hbox hg) | ((with_reducible refine gate_dst (N := 5) rfl ?_); refine box_event ?hg (N := 5) ?hd (cs := #[.int .i64 0, .slice none 0 0, .slice none 0 0, .slice none 0 0]) (t := 51) ?hr ?_; (case hd => rfl); (case hg => rfl); (case hr => first | (go_simp; done) | (go_simp; rfl)); intro gb293 hg w29 hbox hb; have n0_ := qh8 (blk_below (g := gb291) (o := .cells #[.string a0_0, .int .i64 a0_1] 62 (0, 0)) (by (with_reducible repeat (first | apply qa8 | apply qb8 | apply qc8)); exact BK291.out) hb); have n1_ := qh8 (blk_below (g := gb292) (o := .cells #[.string (⟨#[]⟩ : ByteArray), .int .i64 0] 62 (0, 0)) (by (with_reducible repeat (first | apply qa8 | apply qb8 | apply qc8)); exact BK292.out) hb); have n2_ := qh8 (below_step (by repeat (first | (with_reducible first | exact HB.out | apply qd8 | apply qe8 | apply qf8 | refine qg8 ?_ GE291.out | refine qg8 ?_ GE292.out) | exact HB.out)) hb); have n3_ := qh8 (hbox); have n4_ := qh8 ((by rw [hg]; exact (qi8 (by repeat (first | (with_reducible first | exact HB.out | apply qd8 | apply qe8 | apply qf8 | refine qg8 ?_ GE291.out | refine qg8 ?_ GE292.out) | exact HB.out))) : w.heap.size ≤ gb293)); have n5_ := qh8 ((by rw [hg]; exact (qi8 (by repeat (first | (with_reducible first | exact HB.out | apply qd8 | apply qe8 | apply qf8 | refine qg8 ?_ GE291.out | refine qg8 ?_ GE292.out) | exact HB.out))) : w.heap.size ≤ gb293)); have n6_ := qh8 ((by rw [hg]; exact Nat.ne_of_lt (blk_lt (g := gb291) (o := .cells #[.string a0_0, .int .i64 a0_1] 62 (0, 0)) (by (with_reducible repeat (first | apply qa8 | apply qb8 | apply qc8)); exact BK291.out)) : gb291 ≠ gb293)); have n7_ := qh8 ((by rw [hg]; exact Nat.ne_of_gt (blk_lt (g := gb291) (o := .cells #[.string a0_0, .int .i64 a0_1] 62 (0, 0)) (by (with_reducible repeat (first | apply qa8 | apply qb8 | apply qc8)); exact BK291.out)) : gb293 ≠ gb291)); have n8_ := qh8 ((by rw [hg]; exact Nat.ne_of_lt (blk_lt (g := gb292) (o := .cells #[.string (⟨#[]⟩ : ByteArray), .int .i64 0] 62 (0, 0)) (by (with_reducible repeat (first | apply qa8 | apply qb8 | apply qc8)); exact BK292.out)) : gb292 ≠ gb293)); have n9_ := qh8 ((by rw [hg]; exact Nat.ne_of_gt (blk_lt (g := gb292) (o := .cells #[.string (⟨#[]⟩ : ByteArray), .int .i64 0] 62 (0, 0)) (by (with_reducible repeat (first | apply qa8 | apply qb8 | apply qc8)); exact BK292.out)) : gb293 ≠ gb292)); clear BK291; clear BK292; clear HB; have BK291 := n0_; have BK292 := n1_; have HB := n2_; have BK293 := n3_; have GW293 := n4_; have GE293 := n5_; have NB291_293 := n6_; have NB293_291 := n7_; have NB292_293 := n8_; have NB293_292 := n9_; clear n0_ n1_ n2_ n3_ n4_ n5_ n6_ n7_ n8_ n9_; clear hb hbox hg; have hnb30 := NB291_292.out; have hnc30 := NB292_291.out; have hnb31 := NB291_293.out; have hnc31 := NB293_291.out; have hcz32_0 : w29.cell? ⟨gb291, 0, none⟩ = some (.string a0_0) := (blk_cell BK291.out 0).trans rfl; have hcz32_1 : w29.cell? ⟨gb291, 1, none⟩ = some (.int .i64 a0_1) := (blk_cell BK291.out 1).trans rfl; have hfz32_0 := blk_frozen BK291.out 0; have hfz32_1 := blk_frozen BK291.out 1) | ((with_reducible refine gate_callee (f := 94) rfl ?_); refine goesL_ (some 15) rfl rfl Tryd.func94 (by kernel_rfl) rfl #[.agg #[.string a0_0, .int .i64 a0_1]] rfl (by (try simp only [List.map_toArray, List.map_cons, List.map_nil]); first | done | rfl | (simp only [List.length_drop, List.length_take]; rfl)) ?_; (with_reducible refine (impl_KeyChainOK.calls a0_0 a0_1 true _ A12.out).mono ?_); rintro e w33 ⟨rfl, hb⟩; refine ⟨_, rfl, ?_⟩; have n0_ := qh8 (blk_below (g := gb291) (o := .cells #[.string a0_0, .int .i64 a0_1] 62 (0, 0)) (by (with_reducible repeat (first | apply qa8 | apply qb8 | apply qc8)); exact BK291.out) hb); have n1_ := qh8 (blk_below (g := gb292) (o := .cells #[.string (⟨#[]⟩ : ByteArray), .int .i64 0] 62 (0, 0)) (by (with_reducible repeat (first | apply qa8 | apply qb8 | apply qc8)); exact BK292.out) hb); have n2_ := qh8 (blk_below (g := gb293) (o := .cells #[.int .i64 0, .slice none 0 0, .slice none 0 0, .slice none 0 0] 51 (0, 0)) (by (with_reducible repeat (first | apply qa8 | apply qb8 | apply qc8)); exact BK293.out) hb); have n3_ := qh8 (below_step (by repeat (first | (with_reducible first | exact HB.out | apply qd8 | apply qe8 | apply qf8 | refine qg8 ?_ GE291.out | refine qg8 ?_ GE292.out | refine qg8 ?_ GE293.out) | exact HB.out)) hb); clear BK291; clear BK292; clear BK293; clear HB; have BK291 := n0_; have BK292 := n1_; have BK293 := n2_; have HB := n3_; clear n0_ n1_ n2_ n3_; (try clear hb); (try clear hb2); (try clear hk); (try clear hi); have hcz34_0 : w33.cell? ⟨gb291, 0, none⟩ = some (.string a0_0) := (blk_cell BK291.out 0).trans rfl; have hcz34_1 : w33.cell? ⟨gb291, 1, none⟩ = some (.int .i64 a0_1) := (blk_cell BK291.out 1).trans rfl; have hfz34_0 := blk_frozen BK291.out 0; have hfz34_1 := blk_frozen BK291.out 1))
        have n0_ := qh8 (qb8 BK291.out)
        have n1_ := qh8 (qb8 BK292.out)
        have n2_ := qh8 (qb8 BK293.out)
        have n3_ := qh8 (qf8 HB.out)
        clear BK291
        clear BK292
        clear BK293
        clear HB
        have BK291 := n0_
        have BK292 := n1_
        have BK293 := n2_
        have HB := n3_
        clear n0_ n1_ n2_ n3_
        refine start_ (n := 15) (S := fun w' => w'.cell? ⟨gb291, 0, none⟩ = some (.string a0_0) ∧ w'.cell? ⟨gb291, 1, none⟩ = some (.int .i64 a0_1)) (ds := []) #[false, false, false, false, false, false, false, false, false, false, false, false, false, false, false] (by kernel_rfl) rfl rfl ⟨(blk_cell BK291.out 0).trans rfl, (blk_cell BK291.out 1).trans rfl⟩ (fun hHeld => ?_); refine with_tabW impl_SignNext.tab7 impl_SignNext.bits7 (fun HT_ HW_ => ?_)
        generalize w33.drew = w35 at BK291 BK292 BK293 HB hHeld ⊢
        refine pure_ (i := 0) (N := some 25) (v := ?_) (a' := ?_) #[true, false, false, false, false, false, false, false, false, false, false, false, false, false, false] rfl rfl (any_of HT_.out (by kernel_rfl)) (fun _ _ _ h => h) (Or.inl ⟨by rfl, ?_⟩) ?_ ?_
        rotate_left
        · intro w'
          go_simp
          with_reducible rfl
        rotate_left
        · simp only [Act.put, List.setIfInBounds_toArray, List.set_cons_zero, List.set_cons_succ, i64_w, i32_w]
          rfl
        refine pure_ (i := 2) (N := some 27) (v := ?_) (a' := ?_) #[true, false, true, false, false, false, false, false, false, false, false, false, false, false, false] rfl rfl (any_of HT_.out (by kernel_rfl)) (fun _ _ _ h => h) (Or.inl ⟨by rfl, ?_⟩) ?_ ?_
        rotate_left
        · intro w'
          go_simp
          with_reducible rfl
        rotate_left
        · simp only [Act.put, List.setIfInBounds_toArray, List.set_cons_zero, List.set_cons_succ, i64_w, i32_w]
          rfl
        refine pure_ (i := 6) (N := some 31) (v := ?_) (a' := ?_) #[true, false, true, false, false, false, true, false, false, false, false, false, false, false, false] rfl rfl (any_of HT_.out (by kernel_rfl)) (fun _ _ _ h => h) (Or.inl ⟨by rfl, ?_⟩) ?_ ?_
        rotate_left
        · intro w'
          go_simp
          with_reducible rfl
        rotate_left
        · simp only [Act.put, List.setIfInBounds_toArray, List.set_cons_zero, List.set_cons_succ, i64_w, i32_w]
          rfl
        refine pure_ (i := 8) (N := some 33) (v := ?_) (a' := ?_) #[true, false, true, false, false, false, true, false, true, false, false, false, false, false, false] rfl rfl (any_of HT_.out (by kernel_rfl)) (fun _ _ _ h => h) (Or.inl ⟨by rfl, ?_⟩) ?_ ?_
        rotate_left
        · intro w'
          go_simp
          with_reducible rfl
        rotate_left
        · simp only [Act.put, List.setIfInBounds_toArray, List.set_cons_zero, List.set_cons_succ, i64_w, i32_w]
          rfl
        refine pure_ (i := 10) (N := some 35) (v := ?_) (a' := ?_) #[true, false, true, false, false, false, true, false, true, false, true, false, false, false, false] rfl rfl (any_of HT_.out (by kernel_rfl)) (fun _ _ _ h => h) (Or.inl ⟨by rfl, ?_⟩) ?_ ?_
        rotate_left
        · intro w'
          go_simp
          with_reducible rfl
        rotate_left
        · simp only [Act.put, List.setIfInBounds_toArray, List.set_cons_zero, List.set_cons_succ, i64_w, i32_w]
          rfl
        refine take_ (i := 1) (N := some 26) (v := ?_) (a' := ?_) #[true, true, true, false, false, false, true, false, true, false, true, false, false, false, false] rfl rfl (take_ofW HT_.out HW_.out (by kernel_rfl)) (fun _ _ _ h => h) (Or.inl ⟨by rfl, ?_⟩) hHeld ?_ ?_
        rotate_left
        · rintro w' ⟨s0, s1⟩
          go_simp
          with_reducible rfl
        rotate_left
        · simp only [Act.put, List.setIfInBounds_toArray, List.set_cons_zero, List.set_cons_succ, i64_w, i32_w]
          rfl
        refine take_ (i := 3) (N := some 28) (v := ?_) (a' := ?_) #[true, true, true, true, false, false, true, false, true, false, true, false, false, false, false] rfl rfl (take_ofW HT_.out HW_.out (by kernel_rfl)) (fun _ _ _ h => h) (Or.inl ⟨by rfl, ?_⟩) hHeld ?_ ?_
        rotate_left
        · rintro w' ⟨s0, s1⟩
          go_simp
          with_reducible rfl
        rotate_left
        · simp only [Act.put, List.setIfInBounds_toArray, List.set_cons_zero, List.set_cons_succ, i64_w, i32_w]
          rfl
        refine pure_ (i := 4) (N := some 29) (v := ?_) (a' := ?_) #[true, true, true, true, true, false, true, false, true, false, true, false, false, false, false] rfl rfl (any_of HT_.out (by kernel_rfl)) (fun _ _ _ h => h) (Or.inl ⟨by rfl, ?_⟩) ?_ ?_
        rotate_left
        · intro w'
          go_simp
          with_reducible rfl
        rotate_left
        · simp only [Act.put, List.setIfInBounds_toArray, List.set_cons_zero, List.set_cons_succ, i64_w, i32_w]
          rfl
        refine pure_ (i := 5) (N := some 30) (v := ?_) (a' := ?_) #[true, true, true, true, true, true, true, false, true, false, true, false, false, false, false] rfl rfl (any_of HT_.out (by kernel_rfl)) (fun _ _ _ h => h) (Or.inl ⟨by rfl, ?_⟩) ?_ ?_
        rotate_left
        · intro w'
          go_simp
          with_reducible rfl
        rotate_left
        · simp only [Act.put, List.setIfInBounds_toArray, List.set_cons_zero, List.set_cons_succ, i64_w, i32_w]
          rfl
        refine take_ (i := 7) (N := some 32) (v := ?_) (a' := ?_) #[true, true, true, true, true, true, true, true, true, false, true, false, false, false, false] rfl rfl (take_ofW HT_.out HW_.out (by kernel_rfl)) (fun _ _ _ h => h) (Or.inl ⟨by rfl, ?_⟩) hHeld ?_ ?_
        rotate_left
        · rintro w' ⟨s0, s1⟩
          go_simp
          with_reducible rfl
        rotate_left
        · simp only [Act.put, List.setIfInBounds_toArray, List.set_cons_zero, List.set_cons_succ, i64_w, i32_w]
          rfl
        refine take_ (i := 9) (N := some 34) (v := ?_) (a' := ?_) #[true, true, true, true, true, true, true, true, true, true, true, false, false, false, false] rfl rfl (take_ofW HT_.out HW_.out (by kernel_rfl)) (fun _ _ _ h => h) (Or.inl ⟨by rfl, ?_⟩) hHeld ?_ ?_
        rotate_left
        · rintro w' ⟨s0, s1⟩
          go_simp
          with_reducible rfl
        rotate_left
        · simp only [Act.put, List.setIfInBounds_toArray, List.set_cons_zero, List.set_cons_succ, i64_w, i32_w]
          rfl
        refine one_ (i := 11) (N := some 36) #[true, true, true, true, true, true, true, true, true, true, true, true, false, false, false] rfl rfl (one_of HT_.out (by kernel_rfl)) (by decide) (fun K hK => ?_)
        refine goes_ Tryd.func90 (by kernel_rfl) rfl #[.string a0_0, .int .i64 a0_1, .string a1] (by rfl) rfl rfl (by (try simp only [List.map_toArray, List.map_cons, List.map_nil]); first | done | rfl | (simp only [List.length_drop, List.length_take]; rfl)) ?_
        with_reducible refine (impl_signAt.calls k a0_0 a0_1 a1 t295 t296 t299 t302 _ ?side1 A26.out).mono ?_
        (case side1 => exact Go.Proofs.YtgknilganicofaaDoor.Sha.glob_below hG_ (by repeat (first | (with_reducible first | exact HB.out | apply qd8 | apply qe8 | apply qf8 | refine qg8 ?_ GE291.out | refine qg8 ?_ GE292.out | refine qg8 ?_ GE293.out) | exact HB.out)))
        rintro e w36 ⟨v297, v300, v303, rfl, ho0, ho1, ho2, hb⟩
        refine ⟨_, rfl, ?_⟩
        have n0_ := qh8 (Kd.R_lower ho0 (qi8 (by repeat (first | (with_reducible first | exact HB.out | apply qd8 | apply qe8 | apply qf8 | refine qg8 ?_ GE291.out | refine qg8 ?_ GE292.out | refine qg8 ?_ GE293.out) | exact HB.out))))
        have n1_ := qh8 (Kd.R_lower ho1 (qi8 (by repeat (first | (with_reducible first | exact HB.out | apply qd8 | apply qe8 | apply qf8 | refine qg8 ?_ GE291.out | refine qg8 ?_ GE292.out | refine qg8 ?_ GE293.out) | exact HB.out))))
        have n2_ := qh8 (Kd.R_lower ho2 (qi8 (by repeat (first | (with_reducible first | exact HB.out | apply qd8 | apply qe8 | apply qf8 | refine qg8 ?_ GE291.out | refine qg8 ?_ GE292.out | refine qg8 ?_ GE293.out) | exact HB.out))))
        have n3_ := qh8 (blk_below (g := gb291) (o := .cells #[.string a0_0, .int .i64 a0_1] 62 (0, 0)) (by (with_reducible repeat (first | apply qa8 | apply qb8 | apply qc8)); exact BK291.out) hb)
        have n4_ := qh8 (blk_below (g := gb292) (o := .cells #[.string (⟨#[]⟩ : ByteArray), .int .i64 0] 62 (0, 0)) (by (with_reducible repeat (first | apply qa8 | apply qb8 | apply qc8)); exact BK292.out) hb)
        have n5_ := qh8 (blk_below (g := gb293) (o := .cells #[.int .i64 0, .slice none 0 0, .slice none 0 0, .slice none 0 0] 51 (0, 0)) (by (with_reducible repeat (first | apply qa8 | apply qb8 | apply qc8)); exact BK293.out) hb)
        have n6_ := qh8 (below_step (by repeat (first | (with_reducible first | exact HB.out | apply qd8 | apply qe8 | apply qf8 | refine qg8 ?_ GE291.out | refine qg8 ?_ GE292.out | refine qg8 ?_ GE293.out) | exact HB.out)) hb)
        clear BK291
        clear BK292
        clear BK293
        clear HB
        have HO298 := n0_
        have HO301 := n1_
        have HO304 := n2_
        have BK291 := n3_
        have BK292 := n4_
        have BK293 := n5_
        have HB := n6_
        clear n0_ n1_ n2_ n3_ n4_ n5_ n6_
        (try clear hb)
        (try clear hb2)
        (try clear hk)
        (try clear hi)
        (try clear ho0)
        (try clear ho1)
        (try clear ho2)
        obtain ⟨Ao40, co40, eo40⟩ := Kd.R_slice HO298.out
        (first | subst eo40 | (injection eo40 with f1_ f2_ f3_; have f4_ := f1_.symm; have f5_ := f3_.symm; clear f1_ f2_ f3_; subst f4_; subst f5_))
        obtain ⟨Ao42, co42, eo42⟩ := Kd.R_slice HO301.out
        (first | subst eo42 | (injection eo42 with f1_ f2_ f3_; have f4_ := f1_.symm; have f5_ := f3_.symm; clear f1_ f2_ f3_; subst f4_; subst f5_))
        obtain ⟨Ao44, co44, eo44⟩ := Kd.R_slice HO304.out
        (first | subst eo44 | (injection eo44 with f1_ f2_ f3_; have f4_ := f1_.symm; have f5_ := f3_.symm; clear f1_ f2_ f3_; subst f4_; subst f5_))
        refine hK.out _ _ ⟨(blk_cell BK291.out 0).trans rfl, (blk_cell BK291.out 1).trans rfl⟩ (fun hHeld => ?_)
        clear hK K
        refine norm_ (a' := ?_) ?_ ?_
        rotate_left
        · show Act.put _ (some 36) _ = _
          simp only [Act.put, List.setIfInBounds_toArray, List.set_cons_zero, List.set_cons_succ, i64_w, i32_w]
          rfl
        refine one_ (i := 12) (N := none) #[true, true, true, true, true, true, true, true, true, true, true, true, true, false, false] rfl rfl (one_of HT_.out (by kernel_rfl)) (by decide) (fun K hK => ?_)
        have hs37 : w36.cell? ⟨gb292, 0, none⟩ = some (.string (⟨#[]⟩ : ByteArray)) := (blk_cell BK292.out 0).trans rfl
        have hfs37 := blk_frozen BK292.out 0
        have hns37_0 := NB291_292.out
        have hns37_2 := NB293_292.out
        have hms37_0 := NB292_291.out
        have hms37_2 := NB292_293.out
        have hs38 : w36.cell? ⟨gb292, 1, none⟩ = some (.int .i64 0) := (blk_cell BK292.out 1).trans rfl
        have hfs38 := blk_frozen BK292.out 1
        have hns38_0 := NB291_292.out
        have hns38_2 := NB293_292.out
        have hms38_0 := NB292_291.out
        have hms38_2 := NB292_293.out
        refine skip_ (w1 := ?_) (by rfl) rfl ?_ ?_
        rotate_left
        · go_simp
          rfl
        refine hK.out _ _ ⟨((cell_far (p := ⟨gb292, _, none⟩) NB291_292.out _).trans (((cell_far (p := ⟨gb292, _, none⟩) NB291_292.out _).trans (hHeld.1)))), ((cell_far (p := ⟨gb292, _, none⟩) NB291_292.out _).trans (((cell_far (p := ⟨gb292, _, none⟩) NB291_292.out _).trans (hHeld.2))))⟩ (fun hHeld => ?_)
        clear hK K
        refine one_ (i := 13) (N := none) #[true, true, true, true, true, true, true, true, true, true, true, true, true, true, false] rfl rfl (one_of HT_.out (by kernel_rfl)) (by decide) (fun K hK => ?_)
        have hs39 : w36.cell? ⟨gb293, 0, none⟩ = some (.int .i64 0) := (blk_cell BK293.out 0).trans rfl
        have hfs39 := blk_frozen BK293.out 0
        have hns39_0 := NB291_293.out
        have hns39_1 := NB292_293.out
        have hms39_0 := NB293_291.out
        have hms39_1 := NB293_292.out
        have hs41 : w36.cell? ⟨gb293, 1, none⟩ = some (.slice none 0 0) := (blk_cell BK293.out 1).trans rfl
        have hfs41 := blk_frozen BK293.out 1
        have hns41_0 := NB291_293.out
        have hns41_1 := NB292_293.out
        have hms41_0 := NB293_291.out
        have hms41_1 := NB293_292.out
        have hs43 : w36.cell? ⟨gb293, 2, none⟩ = some (.slice none 0 0) := (blk_cell BK293.out 2).trans rfl
        have hfs43 := blk_frozen BK293.out 2
        have hns43_0 := NB291_293.out
        have hns43_1 := NB292_293.out
        have hms43_0 := NB293_291.out
        have hms43_1 := NB293_292.out
        have hs45 : w36.cell? ⟨gb293, 3, none⟩ = some (.slice none 0 0) := (blk_cell BK293.out 3).trans rfl
        have hfs45 := blk_frozen BK293.out 3
        have hns45_0 := NB291_293.out
        have hns45_1 := NB292_293.out
        have hms45_0 := NB293_291.out
        have hms45_1 := NB293_292.out
        refine skip_ (w1 := ?_) (by rfl) rfl ?_ ?_
        rotate_left
        · go_simp
          rfl
        refine hK.out _ _ ⟨((cell_far (p := ⟨gb293, _, none⟩) NB291_293.out _).trans (((cell_far (p := ⟨gb293, _, none⟩) NB291_293.out _).trans (((cell_far (p := ⟨gb293, _, none⟩) NB291_293.out _).trans (((cell_far (p := ⟨gb293, _, none⟩) NB291_293.out _).trans (hHeld.1)))))))), ((cell_far (p := ⟨gb293, _, none⟩) NB291_293.out _).trans (((cell_far (p := ⟨gb293, _, none⟩) NB291_293.out _).trans (((cell_far (p := ⟨gb293, _, none⟩) NB291_293.out _).trans (((cell_far (p := ⟨gb293, _, none⟩) NB291_293.out _).trans (hHeld.2))))))))⟩ (fun hHeld => ?_)
        clear hK K
        refine pure_ (i := 14) (N := some 6) (v := ?_) (a' := ?_) #[true, true, true, true, true, true, true, true, true, true, true, true, true, true, true] rfl rfl (any_of HT_.out (by kernel_rfl)) (fun _ _ _ h => h) (Or.inl ⟨by rfl, ?_⟩) ?_ ?_
        rotate_left
        · intro w'
          go_simp
          with_reducible rfl
        rotate_left
        · simp only [Act.put, List.setIfInBounds_toArray, List.set_cons_zero, List.set_cons_succ, i64_w, i32_w]
          rfl
        refine done_ (done_of HT_.out (by kernel_rfl)) ?_
        try go_wp2
        refine bodyPost_ret (results_list (rs := [.cell 4 62, .cell 5 51, .tmp 6]) rfl (by simp) (.cell gb292 62 #[.string a0_0, .int .i64 (wrap64 (a0_1 + 1))] (0, 0) _ rfl (by (with_reducible repeat (first | apply qa8 | apply qb8 | apply qc8)); refine blk_far ?_ NB292_293.out _; (with_reducible repeat (first | apply qa8 | apply qb8 | apply qc8)); refine blk_far ?_ NB292_293.out _; (with_reducible repeat (first | apply qa8 | apply qb8 | apply qc8)); refine blk_far ?_ NB292_293.out _; (with_reducible repeat (first | apply qa8 | apply qb8 | apply qc8)); refine blk_far ?_ NB292_293.out _; (with_reducible repeat (first | apply qa8 | apply qb8 | apply qc8)); refine blk_put (cs := #[.string a0_0, .int .i64 0]) ?_ 1 _ rfl; (with_reducible repeat (first | apply qa8 | apply qb8 | apply qc8)); refine blk_put (cs := #[.string (⟨#[]⟩ : ByteArray), .int .i64 0]) ?_ 0 _ rfl; (with_reducible repeat (first | apply qa8 | apply qb8 | apply qc8)); exact BK292.out) Tryd.underlying62 rfl (by kernel_rfl) (.cell gb293 51 #[.int .i64 t295, .slice Ao40 t296.length co40, .slice Ao42 t299.length co42, .slice Ao44 t302.length co44] (0, 0) _ rfl (by (with_reducible repeat (first | apply qa8 | apply qb8 | apply qc8)); refine blk_put (cs := #[.int .i64 t295, .slice Ao40 t296.length co40, .slice Ao42 t299.length co42, .slice none 0 0]) ?_ 3 _ rfl; (with_reducible repeat (first | apply qa8 | apply qb8 | apply qc8)); refine blk_put (cs := #[.int .i64 t295, .slice Ao40 t296.length co40, .slice none 0 0, .slice none 0 0]) ?_ 2 _ rfl; (with_reducible repeat (first | apply qa8 | apply qb8 | apply qc8)); refine blk_put (cs := #[.int .i64 t295, .slice none 0 0, .slice none 0 0, .slice none 0 0]) ?_ 1 _ rfl; (with_reducible repeat (first | apply qa8 | apply qb8 | apply qc8)); refine blk_put (cs := #[.int .i64 0, .slice none 0 0, .slice none 0 0, .slice none 0 0]) ?_ 0 _ rfl; (with_reducible repeat (first | apply qa8 | apply qb8 | apply qc8)); refine blk_far ?_ NB293_292.out _; (with_reducible repeat (first | apply qa8 | apply qb8 | apply qc8)); refine blk_far ?_ NB293_292.out _; (with_reducible repeat (first | apply qa8 | apply qb8 | apply qc8)); exact BK293.out) Tryd.underlying51 rfl (by kernel_rfl) (.tmp .nil)))) rfl ?_
        exact ⟨_, _, _, by first | rfl | (simp [errW_none, errW_some] <;> rfl) | (simp [*, errW_none, errW_some] <;> rfl), by (with_reducible repeat (first | apply Kd.R_alloc | apply Kd.R_drewN | apply Kd.R_drew)); exact Kd.R_mono (Kd.R_far (p := ⟨gb293, 3, none⟩) (Kd.R_far (p := ⟨gb293, 2, none⟩) (Kd.R_far (p := ⟨gb293, 1, none⟩) (Kd.R_far (p := ⟨gb293, 0, none⟩) (Kd.R_far (p := ⟨gb292, 1, none⟩) (Kd.R_far (p := ⟨gb292, 0, none⟩) (Kd.R_types (Kd.R_types HO298.out BK292.out (by decide)) BK293.out (by decide)) (fun _ hk => hk.1.2) (.string a0_0)) (fun _ hk => hk.1.2) (.int .i64 (wrap64 (a0_1 + 1)))) (fun _ hk => hk.2) (.int .i64 t295)) (fun _ hk => hk.2) (.slice Ao40 t296.length co40)) (fun _ hk => hk.2) (.slice Ao42 t299.length co42)) (fun _ hk => hk.2) (.slice Ao44 t302.length co44)) (fun _ hk => ⟨hk.1.1.1, hk.1.1.2⟩), by (with_reducible repeat (first | apply Kd.R_alloc | apply Kd.R_drewN | apply Kd.R_drew)); exact Kd.R_mono (Kd.R_far (p := ⟨gb293, 3, none⟩) (Kd.R_far (p := ⟨gb293, 2, none⟩) (Kd.R_far (p := ⟨gb293, 1, none⟩) (Kd.R_far (p := ⟨gb293, 0, none⟩) (Kd.R_far (p := ⟨gb292, 1, none⟩) (Kd.R_far (p := ⟨gb292, 0, none⟩) (Kd.R_types (Kd.R_types HO301.out BK292.out (by decide)) BK293.out (by decide)) (fun _ hk => hk.1.2) (.string a0_0)) (fun _ hk => hk.1.2) (.int .i64 (wrap64 (a0_1 + 1)))) (fun _ hk => hk.2) (.int .i64 t295)) (fun _ hk => hk.2) (.slice Ao40 t296.length co40)) (fun _ hk => hk.2) (.slice Ao42 t299.length co42)) (fun _ hk => hk.2) (.slice Ao44 t302.length co44)) (fun _ hk => ⟨hk.1.1.1, hk.1.1.2⟩), by (with_reducible repeat (first | apply Kd.R_alloc | apply Kd.R_drewN | apply Kd.R_drew)); exact Kd.R_mono (Kd.R_far (p := ⟨gb293, 3, none⟩) (Kd.R_far (p := ⟨gb293, 2, none⟩) (Kd.R_far (p := ⟨gb293, 1, none⟩) (Kd.R_far (p := ⟨gb293, 0, none⟩) (Kd.R_far (p := ⟨gb292, 1, none⟩) (Kd.R_far (p := ⟨gb292, 0, none⟩) (Kd.R_types (Kd.R_types HO304.out BK292.out (by decide)) BK293.out (by decide)) (fun _ hk => hk.1.2) (.string a0_0)) (fun _ hk => hk.1.2) (.int .i64 (wrap64 (a0_1 + 1)))) (fun _ hk => hk.2) (.int .i64 t295)) (fun _ hk => hk.2) (.slice Ao40 t296.length co40)) (fun _ hk => hk.2) (.slice Ao42 t299.length co42)) (fun _ hk => hk.2) (.slice Ao44 t302.length co44)) (fun _ hk => ⟨hk.1.1.1, hk.1.1.2⟩), by repeat (first | (with_reducible first | exact HB.out | apply qd8 | apply qe8 | apply qf8 | refine qg8 ?_ GE291.out | refine qg8 ?_ GE292.out | refine qg8 ?_ GE293.out) | exact HB.out)⟩
    · replace c13 := Bool.eq_false_iff.mpr c13
      subst c13
      have H1 : (some ((⟨#[]⟩ : ByteArray), 0, 0, ([] : List ByteArray), ([] : List ByteArray), ([] : List ByteArray), 1)) = some (r1, r2, r3, r4, r5, r6, r7) := by rw [if_neg (show ¬ (false = true) by decide)] at H; exact H
      clear H
      have H := H1
      clear H1
      simp only [Option.some.injEq, Prod.mk.injEq] at H
      obtain ⟨rfl, rfl, rfl, rfl, rfl, rfl, rfl⟩ := H
      go_enter Tryd.func50, Tryd.ntmps50
      go_wp2_with (first | ((with_reducible refine gate_dst (N := 2) rfl ?_); refine box_event ?hg (N := 2) ?hd (cs := #[.string a0_0, .int .i64 a0_1]) (t := 62) ?hr ?_; (case hd => rfl); (case hg => rfl); (case hr => first | (go_simp; done) | (go_simp; rfl)); intro gb291 hg w46 hbox hb; have n0_ := qh8 (below_step (by repeat (first | (with_reducible first | exact HB.out | apply qd8 | apply qe8 | apply qf8) | exact HB.out)) hb); have n1_ := qh8 (hbox); have n2_ := qh8 ((by rw [hg]; exact (qi8 (by repeat (first | (with_reducible first | exact HB.out | apply qd8 | apply qe8 | apply qf8) | exact HB.out))) : w.heap.size ≤ gb291)); have n3_ := qh8 ((by rw [hg]; exact (qi8 (by repeat (first | (with_reducible first | exact HB.out | apply qd8 | apply qe8 | apply qf8) | exact HB.out))) : w.heap.size ≤ gb291)); clear HB; have HB := n0_; have BK291 := n1_; have GW291 := n2_; have GE291 := n3_; clear n0_ n1_ n2_ n3_; clear hb hbox hg) | ((with_reducible refine gate_dst (N := 4) rfl ?_); refine box_event ?hg (N := 4) ?hd (cs := #[.string (⟨#[]⟩ : ByteArray), .int .i64 0]) (t := 62) ?hr ?_; (case hd => rfl); (case hg => rfl); (case hr => first | (go_simp; done) | (go_simp; rfl)); intro gb292 hg w47 hbox hb; have n0_ := qh8 (blk_below (g := gb291) (o := .cells #[.string a0_0, .int .i64 a0_1] 62 (0, 0)) (by (with_reducible repeat (first | apply qa8 | apply qb8 | apply qc8)); exact BK291.out) hb); have n1_ := qh8 (below_step (by repeat (first | (with_reducible first | exact HB.out | apply qd8 | apply qe8 | apply qf8 | refine qg8 ?_ GE291.out) | exact HB.out)) hb); have n2_ := qh8 (hbox); have n3_ := qh8 ((by rw [hg]; exact (qi8 (by repeat (first | (with_reducible first | exact HB.out | apply qd8 | apply qe8 | apply qf8 | refine qg8 ?_ GE291.out) | exact HB.out))) : w.heap.size ≤ gb292)); have n4_ := qh8 ((by rw [hg]; exact (qi8 (by repeat (first | (with_reducible first | exact HB.out | apply qd8 | apply qe8 | apply qf8 | refine qg8 ?_ GE291.out) | exact HB.out))) : w.heap.size ≤ gb292)); have n5_ := qh8 ((by rw [hg]; exact Nat.ne_of_lt (blk_lt (g := gb291) (o := .cells #[.string a0_0, .int .i64 a0_1] 62 (0, 0)) (by (with_reducible repeat (first | apply qa8 | apply qb8 | apply qc8)); exact BK291.out)) : gb291 ≠ gb292)); have n6_ := qh8 ((by rw [hg]; exact Nat.ne_of_gt (blk_lt (g := gb291) (o := .cells #[.string a0_0, .int .i64 a0_1] 62 (0, 0)) (by (with_reducible repeat (first | apply qa8 | apply qb8 | apply qc8)); exact BK291.out)) : gb292 ≠ gb291)); clear BK291; clear HB; have BK291 := n0_; have HB := n1_; have BK292 := n2_; have GW292 := n3_; have GE292 := n4_; have NB291_292 := n5_; have NB292_291 := n6_; clear n0_ n1_ n2_ n3_ n4_ n5_ n6_; clear hb hbox hg) | ((with_reducible refine gate_dst (N := 5) rfl ?_); refine box_event ?hg (N := 5) ?hd (cs := #[.int .i64 0, .slice none 0 0, .slice none 0 0, .slice none 0 0]) (t := 51) ?hr ?_; (case hd => rfl); (case hg => rfl); (case hr => first | (go_simp; done) | (go_simp; rfl)); intro gb293 hg w48 hbox hb; have n0_ := qh8 (blk_below (g := gb291) (o := .cells #[.string a0_0, .int .i64 a0_1] 62 (0, 0)) (by (with_reducible repeat (first | apply qa8 | apply qb8 | apply qc8)); exact BK291.out) hb); have n1_ := qh8 (blk_below (g := gb292) (o := .cells #[.string (⟨#[]⟩ : ByteArray), .int .i64 0] 62 (0, 0)) (by (with_reducible repeat (first | apply qa8 | apply qb8 | apply qc8)); exact BK292.out) hb); have n2_ := qh8 (below_step (by repeat (first | (with_reducible first | exact HB.out | apply qd8 | apply qe8 | apply qf8 | refine qg8 ?_ GE291.out | refine qg8 ?_ GE292.out) | exact HB.out)) hb); have n3_ := qh8 (hbox); have n4_ := qh8 ((by rw [hg]; exact (qi8 (by repeat (first | (with_reducible first | exact HB.out | apply qd8 | apply qe8 | apply qf8 | refine qg8 ?_ GE291.out | refine qg8 ?_ GE292.out) | exact HB.out))) : w.heap.size ≤ gb293)); have n5_ := qh8 ((by rw [hg]; exact (qi8 (by repeat (first | (with_reducible first | exact HB.out | apply qd8 | apply qe8 | apply qf8 | refine qg8 ?_ GE291.out | refine qg8 ?_ GE292.out) | exact HB.out))) : w.heap.size ≤ gb293)); have n6_ := qh8 ((by rw [hg]; exact Nat.ne_of_lt (blk_lt (g := gb291) (o := .cells #[.string a0_0, .int .i64 a0_1] 62 (0, 0)) (by (with_reducible repeat (first | apply qa8 | apply qb8 | apply qc8)); exact BK291.out)) : gb291 ≠ gb293)); have n7_ := qh8 ((by rw [hg]; exact Nat.ne_of_gt (blk_lt (g := gb291) (o := .cells #[.string a0_0, .int .i64 a0_1] 62 (0, 0)) (by (with_reducible repeat (first | apply qa8 | apply qb8 | apply qc8)); exact BK291.out)) : gb293 ≠ gb291)); have n8_ := qh8 ((by rw [hg]; exact Nat.ne_of_lt (blk_lt (g := gb292) (o := .cells #[.string (⟨#[]⟩ : ByteArray), .int .i64 0] 62 (0, 0)) (by (with_reducible repeat (first | apply qa8 | apply qb8 | apply qc8)); exact BK292.out)) : gb292 ≠ gb293)); have n9_ := qh8 ((by rw [hg]; exact Nat.ne_of_gt (blk_lt (g := gb292) (o := .cells #[.string (⟨#[]⟩ : ByteArray), .int .i64 0] 62 (0, 0)) (by (with_reducible repeat (first | apply qa8 | apply qb8 | apply qc8)); exact BK292.out)) : gb293 ≠ gb292)); clear BK291; clear BK292; clear HB; have BK291 := n0_; have BK292 := n1_; have HB := n2_; have BK293 := n3_; have GW293 := n4_; have GE293 := n5_; have NB291_293 := n6_; have NB293_291 := n7_; have NB292_293 := n8_; have NB293_292 := n9_; clear n0_ n1_ n2_ n3_ n4_ n5_ n6_ n7_ n8_ n9_; clear hb hbox hg; have hnb49 := NB291_292.out; have hnc49 := NB292_291.out; have hnb50 := NB291_293.out; have hnc50 := NB293_291.out; have hcz51_0 : w48.cell? ⟨gb291, 0, none⟩ = some (.string a0_0) := (blk_cell BK291.out 0).trans rfl; have hcz51_1 : w48.cell? ⟨gb291, 1, none⟩ = some (.int .i64 a0_1) := (blk_cell BK291.out 1).trans rfl; have hfz51_0 := blk_frozen BK291.out 0; have hfz51_1 := blk_frozen BK291.out 1) | ((with_reducible refine gate_callee (f := 94) rfl ?_); refine goesL_ (some 15) rfl rfl Tryd.func94 (by kernel_rfl) rfl #[.agg #[.string a0_0, .int .i64 a0_1]] rfl (by (try simp only [List.map_toArray, List.map_cons, List.map_nil]); first | done | rfl | (simp only [List.length_drop, List.length_take]; rfl)) ?_; (with_reducible refine (impl_KeyChainOK.calls a0_0 a0_1 false _ A12.out).mono ?_); rintro e w52 ⟨rfl, hb⟩; refine ⟨_, rfl, ?_⟩; have n0_ := qh8 (blk_below (g := gb291) (o := .cells #[.string a0_0, .int .i64 a0_1] 62 (0, 0)) (by (with_reducible repeat (first | apply qa8 | apply qb8 | apply qc8)); exact BK291.out) hb); have n1_ := qh8 (blk_below (g := gb292) (o := .cells #[.string (⟨#[]⟩ : ByteArray), .int .i64 0] 62 (0, 0)) (by (with_reducible repeat (first | apply qa8 | apply qb8 | apply qc8)); exact BK292.out) hb); have n2_ := qh8 (blk_below (g := gb293) (o := .cells #[.int .i64 0, .slice none 0 0, .slice none 0 0, .slice none 0 0] 51 (0, 0)) (by (with_reducible repeat (first | apply qa8 | apply qb8 | apply qc8)); exact BK293.out) hb); have n3_ := qh8 (below_step (by repeat (first | (with_reducible first | exact HB.out | apply qd8 | apply qe8 | apply qf8 | refine qg8 ?_ GE291.out | refine qg8 ?_ GE292.out | refine qg8 ?_ GE293.out) | exact HB.out)) hb); clear BK291; clear BK292; clear BK293; clear HB; have BK291 := n0_; have BK292 := n1_; have BK293 := n2_; have HB := n3_; clear n0_ n1_ n2_ n3_; (try clear hb); (try clear hb2); (try clear hk); (try clear hi); have hnb53 := NB292_293.out; have hnc53 := NB293_292.out; have hcz54_0 : w52.cell? ⟨gb292, 0, none⟩ = some (.string (⟨#[]⟩ : ByteArray)) := (blk_cell BK292.out 0).trans rfl; have hcz54_1 : w52.cell? ⟨gb292, 1, none⟩ = some (.int .i64 0) := (blk_cell BK292.out 1).trans rfl; have hfz54_0 := blk_frozen BK292.out 0; have hfz54_1 := blk_frozen BK292.out 1; have hcz55_0 : w52.cell? ⟨gb293, 0, none⟩ = some (.int .i64 0) := (blk_cell BK293.out 0).trans rfl; have hcz55_1 : w52.cell? ⟨gb293, 1, none⟩ = some (.slice none 0 0) := (blk_cell BK293.out 1).trans rfl; have hcz55_2 : w52.cell? ⟨gb293, 2, none⟩ = some (.slice none 0 0) := (blk_cell BK293.out 2).trans rfl; have hcz55_3 : w52.cell? ⟨gb293, 3, none⟩ = some (.slice none 0 0) := (blk_cell BK293.out 3).trans rfl; have hfz55_0 := blk_frozen BK293.out 0; have hfz55_1 := blk_frozen BK293.out 1; have hfz55_2 := blk_frozen BK293.out 2; have hfz55_3 := blk_frozen BK293.out 3))
      refine bodyPost_ret (results_list (rs := [.cell 4 62, .cell 5 51, .tmp 6]) rfl (by simp) (.cell gb292 62 #[.string (⟨#[]⟩ : ByteArray), .int .i64 0] (0, 0) _ rfl (by (with_reducible repeat (first | apply qa8 | apply qb8 | apply qc8)); refine blk_far ?_ NB292_293.out _; (with_reducible repeat (first | apply qa8 | apply qb8 | apply qc8)); refine blk_far ?_ NB292_293.out _; (with_reducible repeat (first | apply qa8 | apply qb8 | apply qc8)); refine blk_far ?_ NB292_293.out _; (with_reducible repeat (first | apply qa8 | apply qb8 | apply qc8)); refine blk_far ?_ NB292_293.out _; (with_reducible repeat (first | apply qa8 | apply qb8 | apply qc8)); refine blk_put (cs := #[.string (⟨#[]⟩ : ByteArray), .int .i64 0]) ?_ 1 _ rfl; (with_reducible repeat (first | apply qa8 | apply qb8 | apply qc8)); refine blk_put (cs := #[.string (⟨#[]⟩ : ByteArray), .int .i64 0]) ?_ 0 _ rfl; (with_reducible repeat (first | apply qa8 | apply qb8 | apply qc8)); exact BK292.out) Tryd.underlying62 rfl (by kernel_rfl) (.cell gb293 51 #[.int .i64 0, .slice none 0 0, .slice none 0 0, .slice none 0 0] (0, 0) _ rfl (by (with_reducible repeat (first | apply qa8 | apply qb8 | apply qc8)); refine blk_put (cs := #[.int .i64 0, .slice none 0 0, .slice none 0 0, .slice none 0 0]) ?_ 3 _ rfl; (with_reducible repeat (first | apply qa8 | apply qb8 | apply qc8)); refine blk_put (cs := #[.int .i64 0, .slice none 0 0, .slice none 0 0, .slice none 0 0]) ?_ 2 _ rfl; (with_reducible repeat (first | apply qa8 | apply qb8 | apply qc8)); refine blk_put (cs := #[.int .i64 0, .slice none 0 0, .slice none 0 0, .slice none 0 0]) ?_ 1 _ rfl; (with_reducible repeat (first | apply qa8 | apply qb8 | apply qc8)); refine blk_put (cs := #[.int .i64 0, .slice none 0 0, .slice none 0 0, .slice none 0 0]) ?_ 0 _ rfl; (with_reducible repeat (first | apply qa8 | apply qb8 | apply qc8)); refine blk_far ?_ NB293_292.out _; (with_reducible repeat (first | apply qa8 | apply qb8 | apply qc8)); refine blk_far ?_ NB293_292.out _; (with_reducible repeat (first | apply qa8 | apply qb8 | apply qc8)); exact BK293.out) Tryd.underlying51 rfl (by kernel_rfl) (.tmp .nil)))) rfl ?_
      exact ⟨_, _, _, by first | rfl | (simp [errW_none, errW_some] <;> rfl) | (simp [*, errW_none, errW_some] <;> rfl), by first | exact Kd.R_nil _ _ _ _ _ | exact Kd.N_nil _ _ _ _ _ | exact Kd.V_nil _ _ _ _ _ | exact Kd.Q_nil _ _ _ _ _ | exact Kd.S_nil _ _ _ _ _, by first | exact Kd.R_nil _ _ _ _ _ | exact Kd.N_nil _ _ _ _ _ | exact Kd.V_nil _ _ _ _ _ | exact Kd.Q_nil _ _ _ _ _ | exact Kd.S_nil _ _ _ _ _, by first | exact Kd.R_nil _ _ _ _ _ | exact Kd.N_nil _ _ _ _ _ | exact Kd.V_nil _ _ _ _ _ | exact Kd.Q_nil _ _ _ _ _ | exact Kd.S_nil _ _ _ _ _, by repeat (first | (with_reducible first | exact HB.out | apply qd8 | apply qe8 | apply qf8 | refine qg8 ?_ GE291.out | refine qg8 ?_ GE292.out | refine qg8 ?_ GE293.out) | exact HB.out)⟩

/-! ### laws_eqKeyChain: function 51 -/
def laws_eqKeyChain.f (a0_0 : ByteArray) (a0_1 : Int) (a1_0 : ByteArray) (a1_1 : Int) : Option (Bool) := if a0_0.toList = a1_0.toList then (if a0_1 = a1_1 then (some true) else (some false)) else (some false)
set_option maxHeartbeats 8000000 in
set_option maxRecDepth 100000 in
theorem laws_eqKeyChain.calls (a0_0 : ByteArray) (a0_1 : Int) (a1_0 : ByteArray) (a1_1 : Int) (r : Bool) (w : World) (h : laws_eqKeyChain.f a0_0 a0_1 a1_0 a1_1 = some r) :
    Calls Tryd.prog 51 #[.agg #[.string a0_0, .int .i64 a0_1], .agg #[.string a1_0, .int .i64 a1_1]] w fun e w' => e = .returned (.bool r) ∧ Below w.heap.size w w' := by
  have hu62 := Tryd.underlying62
  have HB := qh8 (Below.refl w.heap.size w)
  have H : (if a0_0.toList = a1_0.toList then (if a0_1 = a1_1 then (some true) else (some false)) else (some false)) = some r := h
  clear h
  by_cases c3 : a0_0.toList = a1_0.toList
  · rw [if_pos c3] at H
    have c3b0 : (a0_0.toList == a1_0.toList) = true := beq_iff_eq.mpr c3
    have c3b1 : (a0_0.toList != a1_0.toList) = false := bne_eq_false_iff_eq.mpr c3
    clear c3
    by_cases c4 : a0_1 = a1_1
    · rw [if_pos c4] at H
      have c4b0 : (a0_1 == a1_1) = true := beq_iff_eq.mpr c4
      have c4b1 : (a0_1 != a1_1) = false := bne_eq_false_iff_eq.mpr c4
      clear c4
      obtain rfl := Option.some.inj H
      go_enter Tryd.func51, Tryd.ntmps51
      go_wp2_with (first | ((with_reducible refine gate_dst (N := 2) rfl ?_); refine box_event ?hg (N := 2) ?hd (cs := #[.string a0_0, .int .i64 a0_1]) (t := 62) ?hr ?_; (case hd => rfl); (case hg => rfl); (case hr => first | (go_simp; done) | (go_simp; rfl)); intro gb305 hg w5 hbox hb; have n0_ := qh8 (below_step (by repeat (first | (with_reducible first | exact HB.out | apply qd8 | apply qe8 | apply qf8) | exact HB.out)) hb); have n1_ := qh8 (hbox); have n2_ := qh8 ((by rw [hg]; exact (qi8 (by repeat (first | (with_reducible first | exact HB.out | apply qd8 | apply qe8 | apply qf8) | exact HB.out))) : w.heap.size ≤ gb305)); have n3_ := qh8 ((by rw [hg]; exact (qi8 (by repeat (first | (with_reducible first | exact HB.out | apply qd8 | apply qe8 | apply qf8) | exact HB.out))) : w.heap.size ≤ gb305)); clear HB; have HB := n0_; have BK305 := n1_; have GW305 := n2_; have GE305 := n3_; clear n0_ n1_ n2_ n3_; clear hb hbox hg) | ((with_reducible refine gate_dst (N := 3) rfl ?_); refine box_event ?hg (N := 3) ?hd (cs := #[.string a1_0, .int .i64 a1_1]) (t := 62) ?hr ?_; (case hd => rfl); (case hg => rfl); (case hr => first | (go_simp; done) | (go_simp; rfl)); intro gb306 hg w6 hbox hb; have n0_ := qh8 (blk_below (g := gb305) (o := .cells #[.string a0_0, .int .i64 a0_1] 62 (0, 0)) (by (with_reducible repeat (first | apply qa8 | apply qb8 | apply qc8)); exact BK305.out) hb); have n1_ := qh8 (below_step (by repeat (first | (with_reducible first | exact HB.out | apply qd8 | apply qe8 | apply qf8 | refine qg8 ?_ GE305.out) | exact HB.out)) hb); have n2_ := qh8 (hbox); have n3_ := qh8 ((by rw [hg]; exact (qi8 (by repeat (first | (with_reducible first | exact HB.out | apply qd8 | apply qe8 | apply qf8 | refine qg8 ?_ GE305.out) | exact HB.out))) : w.heap.size ≤ gb306)); have n4_ := qh8 ((by rw [hg]; exact (qi8 (by repeat (first | (with_reducible first | exact HB.out | apply qd8 | apply qe8 | apply qf8 | refine qg8 ?_ GE305.out) | exact HB.out))) : w.heap.size ≤ gb306)); have n5_ := qh8 ((by rw [hg]; exact Nat.ne_of_lt (blk_lt (g := gb305) (o := .cells #[.string a0_0, .int .i64 a0_1] 62 (0, 0)) (by (with_reducible repeat (first | apply qa8 | apply qb8 | apply qc8)); exact BK305.out)) : gb305 ≠ gb306)); have n6_ := qh8 ((by rw [hg]; exact Nat.ne_of_gt (blk_lt (g := gb305) (o := .cells #[.string a0_0, .int .i64 a0_1] 62 (0, 0)) (by (with_reducible repeat (first | apply qa8 | apply qb8 | apply qc8)); exact BK305.out)) : gb306 ≠ gb305)); clear BK305; clear HB; have BK305 := n0_; have HB := n1_; have BK306 := n2_; have GW306 := n3_; have GE306 := n4_; have NB305_306 := n5_; have NB306_305 := n6_; clear n0_ n1_ n2_ n3_ n4_ n5_ n6_; clear hb hbox hg; have hnb7 := NB305_306.out; have hnc7 := NB306_305.out; have hcz8_0 : w6.cell? ⟨gb305, 0, none⟩ = some (.string a0_0) := (blk_cell BK305.out 0).trans rfl; have hcz8_1 : w6.cell? ⟨gb305, 1, none⟩ = some (.int .i64 a0_1) := (blk_cell BK305.out 1).trans rfl; have hfz8_0 := blk_frozen BK305.out 0; have hfz8_1 := blk_frozen BK305.out 1; have hcz9_0 : w6.cell? ⟨gb306, 0, none⟩ = some (.string a1_0) := (blk_cell BK306.out 0).trans rfl; have hcz9_1 : w6.cell? ⟨gb306, 1, none⟩ = some (.int .i64 a1_1) := (blk_cell BK306.out 1).trans rfl; have hfz9_0 := blk_frozen BK306.out 0; have hfz9_1 := blk_frozen BK306.out 1))
      go_ret
      exact ⟨by first | rfl | (simp [errW_none, errW_some] <;> rfl) | (simp [*, errW_none, errW_some] <;> rfl), by repeat (first | (with_reducible first | exact HB.out | apply qd8 | apply qe8 | apply qf8 | refine qg8 ?_ GE305.out | refine qg8 ?_ GE306.out) | exact HB.out)⟩
    · rw [if_neg c4] at H
      have c4b0 : (a0_1 == a1_1) = false := beq_eq_false_iff_ne.mpr c4
      have c4b1 : (a0_1 != a1_1) = true := bne_iff_ne.mpr c4
      obtain rfl := Option.some.inj H
      go_enter Tryd.func51, Tryd.ntmps51
      go_wp2_with (first | ((with_reducible refine gate_dst (N := 2) rfl ?_); refine box_event ?hg (N := 2) ?hd (cs := #[.string a0_0, .int .i64 a0_1]) (t := 62) ?hr ?_; (case hd => rfl); (case hg => rfl); (case hr => first | (go_simp; done) | (go_simp; rfl)); intro gb305 hg w10 hbox hb; have n0_ := qh8 (below_step (by repeat (first | (with_reducible first | exact HB.out | apply qd8 | apply qe8 | apply qf8) | exact HB.out)) hb); have n1_ := qh8 (hbox); have n2_ := qh8 ((by rw [hg]; exact (qi8 (by repeat (first | (with_reducible first | exact HB.out | apply qd8 | apply qe8 | apply qf8) | exact HB.out))) : w.heap.size ≤ gb305)); have n3_ := qh8 ((by rw [hg]; exact (qi8 (by repeat (first | (with_reducible first | exact HB.out | apply qd8 | apply qe8 | apply qf8) | exact HB.out))) : w.heap.size ≤ gb305)); clear HB; have HB := n0_; have BK305 := n1_; have GW305 := n2_; have GE305 := n3_; clear n0_ n1_ n2_ n3_; clear hb hbox hg) | ((with_reducible refine gate_dst (N := 3) rfl ?_); refine box_event ?hg (N := 3) ?hd (cs := #[.string a1_0, .int .i64 a1_1]) (t := 62) ?hr ?_; (case hd => rfl); (case hg => rfl); (case hr => first | (go_simp; done) | (go_simp; rfl)); intro gb306 hg w11 hbox hb; have n0_ := qh8 (blk_below (g := gb305) (o := .cells #[.string a0_0, .int .i64 a0_1] 62 (0, 0)) (by (with_reducible repeat (first | apply qa8 | apply qb8 | apply qc8)); exact BK305.out) hb); have n1_ := qh8 (below_step (by repeat (first | (with_reducible first | exact HB.out | apply qd8 | apply qe8 | apply qf8 | refine qg8 ?_ GE305.out) | exact HB.out)) hb); have n2_ := qh8 (hbox); have n3_ := qh8 ((by rw [hg]; exact (qi8 (by repeat (first | (with_reducible first | exact HB.out | apply qd8 | apply qe8 | apply qf8 | refine qg8 ?_ GE305.out) | exact HB.out))) : w.heap.size ≤ gb306)); have n4_ := qh8 ((by rw [hg]; exact (qi8 (by repeat (first | (with_reducible first | exact HB.out | apply qd8 | apply qe8 | apply qf8 | refine qg8 ?_ GE305.out) | exact HB.out))) : w.heap.size ≤ gb306)); have n5_ := qh8 ((by rw [hg]; exact Nat.ne_of_lt (blk_lt (g := gb305) (o := .cells #[.string a0_0, .int .i64 a0_1] 62 (0, 0)) (by (with_reducible repeat (first | apply qa8 | apply qb8 | apply qc8)); exact BK305.out)) : gb305 ≠ gb306)); have n6_ := qh8 ((by rw [hg]; exact Nat.ne_of_gt (blk_lt (g := gb305) (o := .cells #[.string a0_0, .int .i64 a0_1] 62 (0, 0)) (by (with_reducible repeat (first | apply qa8 | apply qb8 | apply qc8)); exact BK305.out)) : gb306 ≠ gb305)); clear BK305; clear HB; have BK305 := n0_; have HB := n1_; have BK306 := n2_; have GW306 := n3_; have GE306 := n4_; have NB305_306 := n5_; have NB306_305 := n6_; clear n0_ n1_ n2_ n3_ n4_ n5_ n6_; clear hb hbox hg; have hnb12 := NB305_306.out; have hnc12 := NB306_305.out; have hcz13_0 : w11.cell? ⟨gb305, 0, none⟩ = some (.string a0_0) := (blk_cell BK305.out 0).trans rfl; have hcz13_1 : w11.cell? ⟨gb305, 1, none⟩ = some (.int .i64 a0_1) := (blk_cell BK305.out 1).trans rfl; have hfz13_0 := blk_frozen BK305.out 0; have hfz13_1 := blk_frozen BK305.out 1; have hcz14_0 : w11.cell? ⟨gb306, 0, none⟩ = some (.string a1_0) := (blk_cell BK306.out 0).trans rfl; have hcz14_1 : w11.cell? ⟨gb306, 1, none⟩ = some (.int .i64 a1_1) := (blk_cell BK306.out 1).trans rfl; have hfz14_0 := blk_frozen BK306.out 0; have hfz14_1 := blk_frozen BK306.out 1))
      go_ret
      exact ⟨by first | rfl | (simp [errW_none, errW_some] <;> rfl) | (simp [*, errW_none, errW_some] <;> rfl), by repeat (first | (with_reducible first | exact HB.out | apply qd8 | apply qe8 | apply qf8 | refine qg8 ?_ GE305.out | refine qg8 ?_ GE306.out) | exact HB.out)⟩
  · rw [if_neg c3] at H
    have c3b0 : (a0_0.toList == a1_0.toList) = false := beq_eq_false_iff_ne.mpr c3
    have c3b1 : (a0_0.toList != a1_0.toList) = true := bne_iff_ne.mpr c3
    obtain rfl := Option.some.inj H
    go_enter Tryd.func51, Tryd.ntmps51
    go_wp2_with (first | ((with_reducible refine gate_dst (N := 2) rfl ?_); refine box_event ?hg (N := 2) ?hd (cs := #[.string a0_0, .int .i64 a0_1]) (t := 62) ?hr ?_; (case hd => rfl); (case hg => rfl); (case hr => first | (go_simp; done) | (go_simp; rfl)); intro gb305 hg w15 hbox hb; have n0_ := qh8 (below_step (by repeat (first | (with_reducible first | exact HB.out | apply qd8 | apply qe8 | apply qf8) | exact HB.out)) hb); have n1_ := qh8 (hbox); have n2_ := qh8 ((by rw [hg]; exact (qi8 (by repeat (first | (with_reducible first | exact HB.out | apply qd8 | apply qe8 | apply qf8) | exact HB.out))) : w.heap.size ≤ gb305)); have n3_ := qh8 ((by rw [hg]; exact (qi8 (by repeat (first | (with_reducible first | exact HB.out | apply qd8 | apply qe8 | apply qf8) | exact HB.out))) : w.heap.size ≤ gb305)); clear HB; have HB := n0_; have BK305 := n1_; have GW305 := n2_; have GE305 := n3_; clear n0_ n1_ n2_ n3_; clear hb hbox hg) | ((with_reducible refine gate_dst (N := 3) rfl ?_); refine box_event ?hg (N := 3) ?hd (cs := #[.string a1_0, .int .i64 a1_1]) (t := 62) ?hr ?_; (case hd => rfl); (case hg => rfl); (case hr => first | (go_simp; done) | (go_simp; rfl)); intro gb306 hg w16 hbox hb; have n0_ := qh8 (blk_below (g := gb305) (o := .cells #[.string a0_0, .int .i64 a0_1] 62 (0, 0)) (by (with_reducible repeat (first | apply qa8 | apply qb8 | apply qc8)); exact BK305.out) hb); have n1_ := qh8 (below_step (by repeat (first | (with_reducible first | exact HB.out | apply qd8 | apply qe8 | apply qf8 | refine qg8 ?_ GE305.out) | exact HB.out)) hb); have n2_ := qh8 (hbox); have n3_ := qh8 ((by rw [hg]; exact (qi8 (by repeat (first | (with_reducible first | exact HB.out | apply qd8 | apply qe8 | apply qf8 | refine qg8 ?_ GE305.out) | exact HB.out))) : w.heap.size ≤ gb306)); have n4_ := qh8 ((by rw [hg]; exact (qi8 (by repeat (first | (with_reducible first | exact HB.out | apply qd8 | apply qe8 | apply qf8 | refine qg8 ?_ GE305.out) | exact HB.out))) : w.heap.size ≤ gb306)); have n5_ := qh8 ((by rw [hg]; exact Nat.ne_of_lt (blk_lt (g := gb305) (o := .cells #[.string a0_0, .int .i64 a0_1] 62 (0, 0)) (by (with_reducible repeat (first | apply qa8 | apply qb8 | apply qc8)); exact BK305.out)) : gb305 ≠ gb306)); have n6_ := qh8 ((by rw [hg]; exact Nat.ne_of_gt (blk_lt (g := gb305) (o := .cells #[.string a0_0, .int .i64 a0_1] 62 (0, 0)) (by (with_reducible repeat (first | apply qa8 | apply qb8 | apply qc8)); exact BK305.out)) : gb306 ≠ gb305)); clear BK305; clear HB; have BK305 := n0_; have HB := n1_; have BK306 := n2_; have GW306 := n3_; have GE306 := n4_; have NB305_306 := n5_; have NB306_305 := n6_; clear n0_ n1_ n2_ n3_ n4_ n5_ n6_; clear hb hbox hg; have hnb17 := NB305_306.out; have hnc17 := NB306_305.out; have hcz18_0 : w16.cell? ⟨gb305, 0, none⟩ = some (.string a0_0) := (blk_cell BK305.out 0).trans rfl; have hcz18_1 : w16.cell? ⟨gb305, 1, none⟩ = some (.int .i64 a0_1) := (blk_cell BK305.out 1).trans rfl; have hfz18_0 := blk_frozen BK305.out 0; have hfz18_1 := blk_frozen BK305.out 1; have hcz19_0 : w16.cell? ⟨gb306, 0, none⟩ = some (.string a1_0) := (blk_cell BK306.out 0).trans rfl; have hcz19_1 : w16.cell? ⟨gb306, 1, none⟩ = some (.int .i64 a1_1) := (blk_cell BK306.out 1).trans rfl; have hfz19_0 := blk_frozen BK306.out 0; have hfz19_1 := blk_frozen BK306.out 1))
    go_ret
    exact ⟨by first | rfl | (simp [errW_none, errW_some] <;> rfl) | (simp [*, errW_none, errW_some] <;> rfl), by repeat (first | (with_reducible first | exact HB.out | apply qd8 | apply qe8 | apply qf8 | refine qg8 ?_ GE305.out | refine qg8 ?_ GE306.out) | exact HB.out)⟩

end Go.Proofs.YtgknilganicofaaDoor.PFnExactSignNext
