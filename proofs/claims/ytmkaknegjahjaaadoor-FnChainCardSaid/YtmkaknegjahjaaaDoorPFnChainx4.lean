-- laid by this session's program myprint.py over the kit's printer
-- aliased
import Derived.Test.YtmkaknegjahjaaaDoorPFnChainx0
import Derived.Test.YtmkaknegjahjaaaDoorPFnChainx2
import Derived.Test.YtmkaknegjahjaaaDoorPFnChainx3
namespace Go.Proofs.YtmkaknegjahjaaaDoor.PFnChain
open Go.RowKit Go.Proofs.YtmkaknegjahjaaaDoorV.PrintWords Go.Proofs.YtmkaknegjahjaaaDoorV.PrintLast Go.Proofs.YtmkaknegjahjaaaDoorV.PrintMore
attribute [local go_sem] max2_int min2_int max_two min_two max_three min_three max_four min_four u8_wm u32_wm   -- for this text's walks alone
set_option linter.unusedVariables false
set_option linter.unusedSimpArgs false

/-! ### impl_signAt: function 59 -/
theorem qa4 : type_of% @blk_drewN := @blk_drewN
theorem qb4 : type_of% @blk_drew := @blk_drew
theorem qc4 : type_of% @blk_alloc := @blk_alloc
theorem qd4 : type_of% @Kd.R_alloc := @Kd.R_alloc
theorem qe4 : type_of% @Kd.R_drewN := @Kd.R_drewN
theorem qf4 : type_of% @Kd.R_drew := @Kd.R_drew
theorem qg4 : type_of% @below_alloc := @below_alloc
theorem qh4 : type_of% @pw_below_drewN := @pw_below_drewN
theorem qi4 : type_of% @below_drew1 := @below_drew1
theorem qj4 : type_of% @below_set := @below_set
theorem qk4 : type_of% @Aside0.mk := @Aside0.mk
theorem ql4 : type_of% @Kd.R_mono := @Kd.R_mono
mutual
def impl_signAt.l0 : Nat → ByteArray → Int → List Int → Int → Int → Int → List ByteArray → List ByteArray → Option (Int × List ByteArray × List ByteArray × List ByteArray)
  | 0, _, _, _, _, _, _, _, _ => none
  | k + 1, x0, x1, x16, x17, x18, x140000, x140001, x140002 => if x18 < x17 then (if 0 ≤ x18 then (if x18 < (x16.length : Int) then ((impl_secret.f k x0 x1 x18 (((rd x16 x18) - 48) % 256)).bind fun t145 => (if x140001.length < 8796093022208 then ((impl_secret.f k x0 x1 x18 (wrap64 (1 - (((rd x16 x18) - 48) % 256)))).bind fun t149 => ((impl_hash.f t149).bind fun t150 => (if x140002.length < 8796093022208 then (impl_signAt.l0 k x0 x1 x16 x17 (wrap64 (x18 + 1)) x140000 (x140001 ++ [t145]) (x140002 ++ [t150])) else (none)))) else (none))) else (none)) else (none)) else ((impl_keys.f k x0).bind fun t154 => (impl_signAt.l1 k x1 t154 x140000 x140001 x140002 ([] : List ByteArray)))
def impl_signAt.l1 : Nat → Int → List ByteArray → Int → List ByteArray → List ByteArray → List ByteArray → Option (Int × List ByteArray × List ByteArray × List ByteArray)
  | 0, _, _, _, _, _, _ => none
  | k + 1, x1, x11, x140000, x140001, x140002, x140003 => if (x11.length : Int) > 1 then (if 0 ≤ (Go.bits .xor .i64 x1 1) then (if (Go.bits .xor .i64 x1 1) < (x11.length : Int) then (if x140003.length < 8796093022208 then ((impl_above.f k x11).bind fun t161 => (impl_signAt.l1 k (wrap64 (Int.tdiv x1 2)) t161 x140000 x140001 x140002 (x140003 ++ [rdOf ByteArray.empty x11 (Go.bits .xor .i64 x1 1)]))) else (none)) else (none)) else (none)) else (some (x140000, x140001, x140002, x140003))
end
def impl_signAt.f (k : Nat) (a0 : ByteArray) (a1 : Int) (a2 : ByteArray) : Option (Int × List ByteArray × List ByteArray × List ByteArray) := (impl_messageBits.f k a2).bind fun t140 => (if t140.size ≤ 9223372036854775807 then ((some (bytesOf t140 : List Int)).bind fun y141 => (impl_signAt.l0 k a0 a1 y141 (y141.length : Int) 0 a1 ([] : List ByteArray) ([] : List ByteArray))) else (none))
theorem impl_signAt.mono_l : ∀ k, (∀ y0 y1 y2 y3 y4 y5 y6 y7, LeO (impl_signAt.l0 k y0 y1 y2 y3 y4 y5 y6 y7) (impl_signAt.l0 (k + 1) y0 y1 y2 y3 y4 y5 y6 y7)) ∧ (∀ y0 y1 y2 y3 y4 y5, LeO (impl_signAt.l1 k y0 y1 y2 y3 y4 y5) (impl_signAt.l1 (k + 1) y0 y1 y2 y3 y4 y5))
  | 0 => ⟨fun _ _ _ _ _ _ _ _ r h => by simp [impl_signAt.l0] at h, fun _ _ _ _ _ _ r h => by simp [impl_signAt.l1] at h⟩
  | k + 1 => by
    obtain ⟨ih0, ih1⟩ := impl_signAt.mono_l k
    refine ⟨?_, ?_⟩
    · intro y0 y1 y2 y3 y4 y5 y6 y7
      unfold impl_signAt.l0
      repeat' first
      | (with_reducible exact ih0 _ _ _ _ _ _ _ _)
      | (with_reducible exact ih1 _ _ _ _ _ _)
      | (with_reducible exact impl_above.mono _ _)
      | (with_reducible exact impl_keys.mono _ _)
      | (with_reducible exact impl_messageBits.mono _ _)
      | (with_reducible exact impl_secret.mono _ _ _ _ _)
      | (with_reducible exact LeO.refl _)
      | (with_reducible exact LeO.none _)
      | (with_reducible refine LeO.ite ?_ ?_)
      | (with_reducible refine LeO.bind ?_ (fun _ => ?_))
      | exact ih0 _ _ _ _ _ _ _ _
      | exact ih1 _ _ _ _ _ _
      | exact impl_above.mono _ _
      | exact impl_keys.mono _ _
      | exact impl_messageBits.mono _ _
      | exact impl_secret.mono _ _ _ _ _
      | exact LeO.none _
      | refine LeO.ite ?_ ?_
      | refine LeO.bind ?_ (fun _ => ?_)
    · intro y0 y1 y2 y3 y4 y5
      unfold impl_signAt.l1
      repeat' first
      | (with_reducible exact ih0 _ _ _ _ _ _ _ _)
      | (with_reducible exact ih1 _ _ _ _ _ _)
      | (with_reducible exact impl_above.mono _ _)
      | (with_reducible exact impl_keys.mono _ _)
      | (with_reducible exact impl_messageBits.mono _ _)
      | (with_reducible exact impl_secret.mono _ _ _ _ _)
      | (with_reducible exact LeO.refl _)
      | (with_reducible exact LeO.none _)
      | (with_reducible refine LeO.ite ?_ ?_)
      | (with_reducible refine LeO.bind ?_ (fun _ => ?_))
      | exact ih0 _ _ _ _ _ _ _ _
      | exact ih1 _ _ _ _ _ _
      | exact impl_above.mono _ _
      | exact impl_keys.mono _ _
      | exact impl_messageBits.mono _ _
      | exact impl_secret.mono _ _ _ _ _
      | exact LeO.none _
      | refine LeO.ite ?_ ?_
      | refine LeO.bind ?_ (fun _ => ?_)
theorem impl_signAt.mono : ∀ a0 a1 a2 k, LeO (impl_signAt.f k a0 a1 a2) (impl_signAt.f (k + 1) a0 a1 a2) := by
  intro a0 a1 a2 k
  obtain ⟨ih0, ih1⟩ := impl_signAt.mono_l k
  unfold impl_signAt.f
  repeat' first
      | (with_reducible exact ih0 _ _ _ _ _ _ _ _)
      | (with_reducible exact ih1 _ _ _ _ _ _)
      | (with_reducible exact impl_above.mono _ _)
      | (with_reducible exact impl_keys.mono _ _)
      | (with_reducible exact impl_messageBits.mono _ _)
      | (with_reducible exact impl_secret.mono _ _ _ _ _)
      | (with_reducible exact LeO.refl _)
      | (with_reducible exact LeO.none _)
      | (with_reducible refine LeO.ite ?_ ?_)
      | (with_reducible refine LeO.bind ?_ (fun _ => ?_))
      | exact ih0 _ _ _ _ _ _ _ _
      | exact ih1 _ _ _ _ _ _
      | exact impl_above.mono _ _
      | exact impl_keys.mono _ _
      | exact impl_messageBits.mono _ _
      | exact impl_secret.mono _ _ _ _ _
      | exact LeO.none _
      | refine LeO.ite ?_ ?_
      | refine LeO.bind ?_ (fun _ => ?_)
def impl_signAt.T6 : Bool × List (List Nat × List Nat) := (true, [([], []), ([0], [0]), ([], []), ([], []), ([], []), ([], []), ([2, 3, 4, 5], [2, 3, 4, 5]), ([6], [6]), ([1, 7, 6], [1, 7]), ([0, 1, 2, 3, 4, 5, 6, 7, 8], []), ([9, 8, 8, 0, 1, 2, 3, 4, 5, 6, 7, 8], [8, 9])])
def impl_signAt.B6 : List Nat := [0, 1, 0, 0, 0, 0, 60, 124, 255, 511, 1023]
theorem impl_signAt.tab6 : rtab .any (opsOf Tryd.f59 6) = impl_signAt.T6 := by kernel_rfl
theorem impl_signAt.bits6 : waitsOk impl_signAt.T6.2 impl_signAt.B6 = true := by kernel_rfl
def impl_signAt.T7 : Bool × List (List Nat × List Nat) := (true, [([], []), ([0], [0]), ([], []), ([], []), ([], []), ([], []), ([5], [5]), ([2, 3, 4, 6], [2, 3, 4, 6]), ([7, 7], [7]), ([8], [8]), ([1, 9, 8], [1, 9]), ([0, 1, 2, 3, 4, 5, 6, 7, 8, 9, 10], []), ([11, 10, 10, 0, 1, 2, 3, 4, 5, 6, 7, 8, 9, 10], [10, 11])])
def impl_signAt.B7 : List Nat := [0, 1, 0, 0, 0, 0, 32, 124, 252, 508, 1023, 2047, 4095]
theorem impl_signAt.tab7 : rtab .any (opsOf Tryd.f59 7) = impl_signAt.T7 := by kernel_rfl
theorem impl_signAt.bits7 : waitsOk impl_signAt.T7.2 impl_signAt.B7 = true := by kernel_rfl
def impl_signAt.T12 : Bool × List (List Nat × List Nat) := (true, [([], []), ([0], [0]), ([], []), ([], []), ([3], [3]), ([2, 4], [2, 4]), ([5], [5]), ([6], [6]), ([1, 7], [1, 7]), ([0, 1, 2, 3, 4, 5, 6, 7, 8], []), ([9, 8, 8, 0, 1, 2, 3, 4, 5, 6, 7, 8], [8, 9])])
def impl_signAt.B12 : List Nat := [0, 1, 0, 0, 8, 28, 60, 124, 255, 511, 1023]
theorem impl_signAt.tab12 : rtab .any (opsOf Tryd.f59 12) = impl_signAt.T12 := by kernel_rfl
theorem impl_signAt.bits12 : waitsOk impl_signAt.T12.2 impl_signAt.B12 = true := by kernel_rfl
set_option maxHeartbeats 8000000 in
set_option maxRecDepth 100000 in
theorem impl_signAt.calls (k : Nat) (a0 : ByteArray) (a1 : Int) (a2 : ByteArray) (r1 : Int) (r2 : List ByteArray) (r3 : List ByteArray) (r4 : List ByteArray) (w : World) (hG_ : Go.Proofs.YtmkaknegjahjaaaDoor.Sha.GlobA w) (h : impl_signAt.f k a0 a1 a2 = some (r1, r2, r3, r4)) :
    Calls Tryd.prog 59 #[.string a0, .int .i64 a1, .string a2] w fun e w' => ∃ v1_ v2_ v3_ : Value, e = .returned (.agg #[.int .i64 r1, v1_, v2_, v3_]) ∧ Kd.R Kd.string 9 w' w.heap.size (fun k_ => some k_ ≠ (v2_ : Value).ownBlock ∧ some k_ ≠ (v3_ : Value).ownBlock) v1_ r2 ∧ Kd.R Kd.string 9 w' w.heap.size (fun k_ => some k_ ≠ (v1_ : Value).ownBlock ∧ some k_ ≠ (v3_ : Value).ownBlock) v2_ r3 ∧ Kd.R Kd.string 9 w' w.heap.size (fun k_ => some k_ ≠ (v1_ : Value).ownBlock ∧ some k_ ≠ (v2_ : Value).ownBlock) v3_ r4 ∧ Below w.heap.size w w' := by
  have hu33 := Tryd.underlying33
  have HB := qk4 (Below.refl w.heap.size w)
  have H : ((impl_messageBits.f k a2).bind fun t140 => (if t140.size ≤ 9223372036854775807 then ((some (bytesOf t140 : List Int)).bind fun y141 => (impl_signAt.l0 k a0 a1 y141 (y141.length : Int) 0 a1 ([] : List ByteArray) ([] : List ByteArray))) else (none))) = some (r1, r2, r3, r4) := h
  clear h
  replace H := Option.bind_eq_some_iff.mp H
  obtain ⟨t140, A40, H⟩ := H
  replace H : (if t140.size ≤ 9223372036854775807 then ((some (bytesOf t140 : List Int)).bind fun y141 => (impl_signAt.l0 k a0 a1 y141 (y141.length : Int) 0 a1 ([] : List ByteArray) ([] : List ByteArray))) else (none)) = some (r1, r2, r3, r4) := H
  have A4 := qk4 A40
  clear A40
  by_cases c5 : t140.size ≤ 9223372036854775807
  · rw [if_pos c5] at H
    have c5b0 := eq_true c5
    have c5b1 : decide (t140.size ≤ 9223372036854775807) = true := decide_eq_true c5
    try have c5b2 : (9223372036854775807 < t140.size) = False := eq_false (Nat.not_lt.2 c5)
    clear c5
    obtain ⟨y141, hy141⟩ : ∃ y_ : List Int, y_ = (bytesOf t140) := ⟨_, rfl⟩
    replace H : (impl_signAt.l0 k a0 a1 y141 (y141.length : Int) 0 a1 ([] : List ByteArray) ([] : List ByteArray)) = some (r1, r2, r3, r4) := by first | (rw [hy141]; with_reducible exact H) | (have H2_ := (Option.bind_some _ _).symm.trans H; rw [hy141]; with_reducible exact H2_) | (have H2_ := (Option.bind_some _ _).symm.trans H; with_reducible exact H2_) | with_reducible exact H | (rw [hy141]; exact H) | exact H
    have Ny141 := qk4 hy141
    clear hy141
    have H' := qk4 H
    clear H
    go_enter Tryd.func59, Tryd.ntmps59
    go_wp2_with (first | ((with_reducible refine gate_dst (N := 6) rfl ?_); refine box_event ?hg (N := 6) ?hd (cs := #[.int .i64 0, .slice none 0 0, .slice none 0 0, .slice none 0 0]) (t := 33) ?hr ?_; (case hd => rfl); (case hg => rfl); (case hr => first | (go_simp; done) | (go_simp; rfl)); intro gb138 hg w6 hbox hb; have n0_ := qk4 (below_step (by repeat (first | (with_reducible first | exact HB.out | apply qg4 | apply qh4 | apply qi4) | exact HB.out)) hb); have n1_ := qk4 (hbox); have n2_ := qk4 ((by rw [hg]; exact (below_size (by repeat (first | (with_reducible first | exact HB.out | apply qg4 | apply qh4 | apply qi4) | exact HB.out))) : w.heap.size ≤ gb138)); have n3_ := qk4 ((by rw [hg]; exact (below_size (by repeat (first | (with_reducible first | exact HB.out | apply qg4 | apply qh4 | apply qi4) | exact HB.out))) : w.heap.size ≤ gb138)); clear HB; have HB := n0_; have BK138 := n1_; have GW138 := n2_; have GE138 := n3_; clear n0_ n1_ n2_ n3_; clear hb hbox hg) | ((with_reducible refine gate_dst (N := 7) rfl ?_); refine box_event ?hg (N := 7) ?hd (cs := #[.int .i64 0, .slice none 0 0, .slice none 0 0, .slice none 0 0]) (t := 33) ?hr ?_; (case hd => rfl); (case hg => rfl); (case hr => first | (go_simp; done) | (go_simp; rfl)); intro gb139 hg w7 hbox hb; have n0_ := qk4 (blk_below (g := gb138) (o := .cells #[.int .i64 0, .slice none 0 0, .slice none 0 0, .slice none 0 0] 33 (0, 0)) (by (with_reducible repeat (first | apply qa4 | apply qb4 | apply qc4)); exact BK138.out) hb); have n1_ := qk4 (below_step (by repeat (first | (with_reducible first | exact HB.out | apply qg4 | apply qh4 | apply qi4 | refine qj4 ?_ GE138.out) | exact HB.out)) hb); have n2_ := qk4 (hbox); have n3_ := qk4 ((by rw [hg]; exact (below_size (by repeat (first | (with_reducible first | exact HB.out | apply qg4 | apply qh4 | apply qi4 | refine qj4 ?_ GE138.out) | exact HB.out))) : w.heap.size ≤ gb139)); have n4_ := qk4 ((by rw [hg]; exact (below_size (by repeat (first | (with_reducible first | exact HB.out | apply qg4 | apply qh4 | apply qi4 | refine qj4 ?_ GE138.out) | exact HB.out))) : w.heap.size ≤ gb139)); have n5_ := qk4 ((by rw [hg]; exact Nat.ne_of_lt (blk_lt (g := gb138) (o := .cells #[.int .i64 0, .slice none 0 0, .slice none 0 0, .slice none 0 0] 33 (0, 0)) (by (with_reducible repeat (first | apply qa4 | apply qb4 | apply qc4)); exact BK138.out)) : gb138 ≠ gb139)); have n6_ := qk4 ((by rw [hg]; exact Nat.ne_of_gt (blk_lt (g := gb138) (o := .cells #[.int .i64 0, .slice none 0 0, .slice none 0 0, .slice none 0 0] 33 (0, 0)) (by (with_reducible repeat (first | apply qa4 | apply qb4 | apply qc4)); exact BK138.out)) : gb139 ≠ gb138)); clear BK138; clear HB; have BK138 := n0_; have HB := n1_; have BK139 := n2_; have GW139 := n3_; have GE139 := n4_; have NB138_139 := n5_; have NB139_138 := n6_; clear n0_ n1_ n2_ n3_ n4_ n5_ n6_; clear hb hbox hg; have hnb8 := NB139_138.out; have hnc8 := NB138_139.out; have hcz9_0 : w7.cell? ⟨gb139, 0, none⟩ = some (.int .i64 0) := (blk_cell BK139.out 0).trans rfl; have hcz9_1 : w7.cell? ⟨gb139, 1, none⟩ = some (.slice none 0 0) := (blk_cell BK139.out 1).trans rfl; have hcz9_2 : w7.cell? ⟨gb139, 2, none⟩ = some (.slice none 0 0) := (blk_cell BK139.out 2).trans rfl; have hcz9_3 : w7.cell? ⟨gb139, 3, none⟩ = some (.slice none 0 0) := (blk_cell BK139.out 3).trans rfl; have hfz9_0 := blk_frozen BK139.out 0; have hfz9_1 := blk_frozen BK139.out 1; have hfz9_2 := blk_frozen BK139.out 2; have hfz9_3 := blk_frozen BK139.out 3) | ((with_reducible refine gate_callee (f := 73) rfl ?_); refine goesL_ (some 15) rfl rfl Tryd.func73 (by kernel_rfl) rfl #[.string a2] rfl (by (try simp only [List.map_toArray, List.map_cons, List.map_nil]); first | done | rfl | (simp only [List.length_drop, List.length_take]; rfl)) ?_; (with_reducible refine (impl_messageBits.calls k a2 t140 _ ?side1 A4.out).mono ?_); (case side1 => exact Go.Proofs.YtmkaknegjahjaaaDoor.Sha.glob_below hG_ (by repeat (first | (with_reducible first | exact HB.out | apply qg4 | apply qh4 | apply qi4 | refine qj4 ?_ GE138.out | refine qj4 ?_ GE139.out) | exact HB.out))); rintro e w10 ⟨rfl, hb⟩; refine ⟨_, rfl, ?_⟩; have n0_ := qk4 (blk_below (g := gb138) (o := .cells #[.int .i64 0, .slice none 0 0, .slice none 0 0, .slice none 0 0] 33 (0, 0)) (by (with_reducible repeat (first | apply qa4 | apply qb4 | apply qc4)); refine blk_far ?_ NB138_139.out _; (with_reducible repeat (first | apply qa4 | apply qb4 | apply qc4)); refine blk_far ?_ NB138_139.out _; (with_reducible repeat (first | apply qa4 | apply qb4 | apply qc4)); refine blk_far ?_ NB138_139.out _; (with_reducible repeat (first | apply qa4 | apply qb4 | apply qc4)); refine blk_far ?_ NB138_139.out _; (with_reducible repeat (first | apply qa4 | apply qb4 | apply qc4)); exact BK138.out) hb); have n1_ := qk4 (blk_below (g := gb139) (o := .cells #[.int .i64 a1, .slice none 0 0, .slice none 0 0, .slice none 0 0] 33 (0, 0)) (by (with_reducible repeat (first | apply qa4 | apply qb4 | apply qc4)); refine blk_put (cs := #[.int .i64 a1, .slice none 0 0, .slice none 0 0, .slice none 0 0]) ?_ 3 _ rfl; (with_reducible repeat (first | apply qa4 | apply qb4 | apply qc4)); refine blk_put (cs := #[.int .i64 a1, .slice none 0 0, .slice none 0 0, .slice none 0 0]) ?_ 2 _ rfl; (with_reducible repeat (first | apply qa4 | apply qb4 | apply qc4)); refine blk_put (cs := #[.int .i64 a1, .slice none 0 0, .slice none 0 0, .slice none 0 0]) ?_ 1 _ rfl; (with_reducible repeat (first | apply qa4 | apply qb4 | apply qc4)); refine blk_put (cs := #[.int .i64 0, .slice none 0 0, .slice none 0 0, .slice none 0 0]) ?_ 0 _ rfl; (with_reducible repeat (first | apply qa4 | apply qb4 | apply qc4)); exact BK139.out) hb); have n2_ := qk4 (below_step (by repeat (first | (with_reducible first | exact HB.out | apply qg4 | apply qh4 | apply qi4 | refine qj4 ?_ GE138.out | refine qj4 ?_ GE139.out) | exact HB.out)) hb); clear BK138; clear BK139; clear HB; have BK138 := n0_; have BK139 := n1_; have HB := n2_; clear n0_ n1_ n2_; (try clear hb); (try clear hb2); (try clear hk); (try clear hi)) | ((with_reducible refine gate_dst (N := 16) rfl ?_); refine R_bytes _ 5 rfl (N := 16) rfl 9 22 _ rfl t140 rfl Tryd.underlying9 Tryd.underlying22 Tryd.underlying5 (ok := fun _ => True) trivial (of_decide_eq_true (by first | (with_reducible assumption) | assumption)) (Below.refl _ _) (Nat.le_refl _) ?_; intro v142 w11 ho12 hb hg_ hnew_; clear hg_ hnew_; (first | rw [← Ny141.out] at ho12 | (simp only [Int.reduceToNat] at ho12; rw [← Ny141.out] at ho12)); have n0_ := qk4 (Kd.R_lower ho12 (below_size (by repeat (first | (with_reducible first | exact HB.out | apply qg4 | apply qh4 | apply qi4 | refine qj4 ?_ GE138.out | refine qj4 ?_ GE139.out) | exact HB.out)))); have n1_ := qk4 (blk_below (g := gb138) (o := .cells #[.int .i64 0, .slice none 0 0, .slice none 0 0, .slice none 0 0] 33 (0, 0)) (by (with_reducible repeat (first | apply qa4 | apply qb4 | apply qc4)); exact BK138.out) hb); have n2_ := qk4 (blk_below (g := gb139) (o := .cells #[.int .i64 a1, .slice none 0 0, .slice none 0 0, .slice none 0 0] 33 (0, 0)) (by (with_reducible repeat (first | apply qa4 | apply qb4 | apply qc4)); exact BK139.out) hb); have n3_ := qk4 (below_step (by repeat (first | (with_reducible first | exact HB.out | apply qg4 | apply qh4 | apply qi4 | refine qj4 ?_ GE138.out | refine qj4 ?_ GE139.out) | exact HB.out)) hb); clear BK138; clear BK139; clear HB; have HO143 := n0_; have BK138 := n1_; have BK139 := n2_; have HB := n3_; clear n0_ n1_ n2_ n3_; clear hb ho12; obtain ⟨Ao13, co13, eo13⟩ := Kd.R_slice HO143.out; subst eo13))
    go_loopg [18] k (fun kq v18 w' => ∃ (x18_1 : Int) (x140001_1 : List ByteArray) (x140002_1 : List ByteArray) (u140001 : Value) (u140002 : Value), v18 = .int .i64 x18_1 ∧ Aside0 (impl_signAt.l0 kq a0 a1 y141 (y141.length : Int) x18_1 a1 x140001_1 x140002_1 = some (r1, r2, r3, r4)) ∧ Aside0 (kq ≤ k) ∧ Aside0 (Kd.R (Kd.int .u8) 5 w' w.heap.size (fun _ => True) (.slice Ao13 y141.length co13) y141) ∧ Aside0 (Kd.R Kd.string 9 w' w.heap.size (fun k_ => some k_ ≠ (u140002 : Value).ownBlock) u140001 x140001_1) ∧ Aside0 (Kd.R Kd.string 9 w' w.heap.size (fun k_ => some k_ ≠ (u140001 : Value).ownBlock) u140002 x140002_1) ∧ Aside0 (w'.heap[gb138]? = some (.cells #[.int .i64 0, (.slice none 0 0), (.slice none 0 0), (.slice none 0 0)] 33 (0, 0))) ∧ Aside0 (w'.heap[gb139]? = some (.cells #[.int .i64 a1, u140001, u140002, (.slice none 0 0)] 33 (0, 0))) ∧ Aside0 (Below w.heap.size w w'))
    case atStart => exact ⟨(0), (([] : List ByteArray)), (([] : List ByteArray)), (.slice none 0 0), (.slice none 0 0), (by first | rfl | (simp; done) | (simp [*]; done)), H', ⟨Nat.le_refl _⟩, ⟨by (with_reducible repeat (first | apply qd4 | apply qe4 | apply qf4)); exact HO143.out⟩, ⟨by first | exact Kd.R_nil _ _ _ _ _ | exact Kd.N_nil _ _ _ _ _ | exact Kd.V_nil _ _ _ _ _ | exact Kd.Q_nil _ _ _ _ _ | exact Kd.S_nil _ _ _ _ _⟩, ⟨by first | exact Kd.R_nil _ _ _ _ _ | exact Kd.N_nil _ _ _ _ _ | exact Kd.V_nil _ _ _ _ _ | exact Kd.Q_nil _ _ _ _ _ | exact Kd.S_nil _ _ _ _ _⟩, ⟨by (with_reducible repeat (first | apply qa4 | apply qb4 | apply qc4)); exact BK138.out⟩, ⟨by (with_reducible repeat (first | apply qa4 | apply qb4 | apply qc4)); exact BK139.out⟩, ⟨by repeat (first | (with_reducible first | exact HB.out | apply qg4 | apply qh4 | apply qi4 | refine qj4 ?_ GE138.out | refine qj4 ?_ GE139.out) | exact HB.out)⟩⟩
    case round =>
      clear H'
      try clear p2
      try clear c5
      try clear c5b0
      try clear c5b1
      try clear c5b2
      try clear c7
      try clear c8
      try clear hcz9_0
      try clear hcz9_1
      try clear hcz9_2
      try clear hcz9_3
      try clear hfz9_0
      try clear hfz9_1
      try clear hfz9_2
      try clear hfz9_3
      obtain ⟨x18_1, x140001_1, x140002_1, u140001, u140002, rfl, HA, HK1, HO_16, HO_140001, HO_140002, BK138, BK139, HB⟩ := hrel
      cases gk with
      | zero => exact absurd HA.out (by simp [impl_signAt.l0])
      | succ k1 =>
        have H := HA.out
        clear HA
        simp only [impl_signAt.l0] at H
        by_cases c14 : x18_1 < (y141.length : Int)
        · rw [if_pos c14] at H
          have c14b0 : decide (x18_1 < (y141.length : Int)) = true := decide_eq_true c14
          clear c14
          by_cases c15 : 0 ≤ x18_1
          · rw [if_pos c15] at H
            have c15b0 : decide (0 ≤ x18_1) = true := decide_eq_true c15
            clear c15
            by_cases c16 : x18_1 < (y141.length : Int)
            · rw [if_pos c16] at H
              have c16b0 : decide (x18_1 < (y141.length : Int)) = true := decide_eq_true c16
              clear c16
              replace H := Option.bind_eq_some_iff.mp H
              obtain ⟨t145, A170, H⟩ := H
              replace H : (if x140001_1.length < 8796093022208 then ((impl_secret.f k1 a0 a1 x18_1 (wrap64 (1 - (((rd y141 x18_1) - 48) % 256)))).bind fun t149 => ((impl_hash.f t149).bind fun t150 => (if x140002_1.length < 8796093022208 then (impl_signAt.l0 k1 a0 a1 y141 (y141.length : Int) (wrap64 (x18_1 + 1)) a1 (x140001_1 ++ [t145]) (x140002_1 ++ [t150])) else (none)))) else (none)) = some (r1, r2, r3, r4) := H
              have A17 := qk4 A170
              clear A170
              by_cases c18 : x140001_1.length < 8796093022208
              · rw [if_pos c18] at H
                have LMc18 := qk4 c18
                clear c18
                obtain ⟨y146, hy146⟩ : ∃ y_ : List ByteArray, y_ = (x140001_1 ++ [t145]) := ⟨_, rfl⟩
                replace H : ((impl_secret.f k1 a0 a1 x18_1 (wrap64 (1 - (((rd y141 x18_1) - 48) % 256)))).bind fun t149 => ((impl_hash.f t149).bind fun t150 => (if x140002_1.length < 8796093022208 then (impl_signAt.l0 k1 a0 a1 y141 (y141.length : Int) (wrap64 (x18_1 + 1)) a1 y146 (x140002_1 ++ [t150])) else (none)))) = some (r1, r2, r3, r4) := by first | (rw [hy146]; with_reducible exact H) | (have H2_ := (Option.bind_some _ _).symm.trans H; rw [hy146]; with_reducible exact H2_) | (have H2_ := (Option.bind_some _ _).symm.trans H; with_reducible exact H2_) | with_reducible exact H | (rw [hy146]; exact H) | exact H
                have Ny146 := qk4 hy146
                clear hy146
                replace H := Option.bind_eq_some_iff.mp H
                obtain ⟨t149, A190, H⟩ := H
                replace H : ((impl_hash.f t149).bind fun t150 => (if x140002_1.length < 8796093022208 then (impl_signAt.l0 k1 a0 a1 y141 (y141.length : Int) (wrap64 (x18_1 + 1)) a1 y146 (x140002_1 ++ [t150])) else (none))) = some (r1, r2, r3, r4) := H
                have A19 := qk4 A190
                clear A190
                replace H := Option.bind_eq_some_iff.mp H
                obtain ⟨t150, A200, H⟩ := H
                replace H : (if x140002_1.length < 8796093022208 then (impl_signAt.l0 k1 a0 a1 y141 (y141.length : Int) (wrap64 (x18_1 + 1)) a1 y146 (x140002_1 ++ [t150])) else (none)) = some (r1, r2, r3, r4) := H
                have A20 := qk4 A200
                clear A200
                by_cases c21 : x140002_1.length < 8796093022208
                · rw [if_pos c21] at H
                  have LMc21 := qk4 c21
                  clear c21
                  obtain ⟨y151, hy151⟩ : ∃ y_ : List ByteArray, y_ = (x140002_1 ++ [t150]) := ⟨_, rfl⟩
                  replace H : (impl_signAt.l0 k1 a0 a1 y141 (y141.length : Int) (wrap64 (x18_1 + 1)) a1 y146 y151) = some (r1, r2, r3, r4) := by first | (rw [hy151]; with_reducible exact H) | (have H2_ := (Option.bind_some _ _).symm.trans H; rw [hy151]; with_reducible exact H2_) | (have H2_ := (Option.bind_some _ _).symm.trans H; with_reducible exact H2_) | with_reducible exact H | (rw [hy151]; exact H) | exact H
                  have Ny151 := qk4 hy151
                  clear hy151
                  have H' := qk4 H
                  clear H
                  have p144 : 0 ≤ (x18_1 : Int) := of_decide_eq_true (by first | (with_reducible assumption) | assumption)
                  have q144 : x18_1 < (y141.length : Int) := of_decide_eq_true (by first | (with_reducible assumption) | assumption)
                  obtain ⟨ad144, e144, hx144_0⟩ := Kd.at_int (Kd.R_reads' HO_16.out).2.2 x18_1 p144 q144
                  cases e144
                  replace p144 := eq_true p144
                  replace q144 := eq_true q144
                  try go_wp2
                  have n0_ := qk4 (qf4 HO_16.out)
                  have n1_ := qk4 (qf4 HO_140001.out)
                  have n2_ := qk4 (qf4 HO_140002.out)
                  have n3_ := qk4 (qb4 BK138.out)
                  have n4_ := qk4 (qb4 BK139.out)
                  have n5_ := qk4 (qi4 HB.out)
                  clear HO_16
                  clear HO_140001
                  clear HO_140002
                  clear BK138
                  clear BK139
                  clear HB
                  have HO_16 := n0_
                  have HO_140001 := n1_
                  have HO_140002 := n2_
                  have BK138 := n3_
                  have BK139 := n4_
                  have HB := n5_
                  clear n0_ n1_ n2_ n3_ n4_ n5_
                  refine start_ (n := 11) (S := fun w' => w'.cell? ⟨gb139, 0, none⟩ = some (.int .i64 a1) ∧ w'.cell? ⟨gb139, 1, none⟩ = some (u140001) ∧ w'.cell? ⟨gb139, 2, none⟩ = some (u140002) ∧ w'.cell? ⟨gb139, 3, none⟩ = some (.slice none 0 0)) (ds := [10]) #[false, false, false, false, false, false, false, false, false, false, false] (by kernel_rfl) rfl rfl ⟨(blk_cell BK139.out 0).trans rfl, (blk_cell BK139.out 1).trans rfl, (blk_cell BK139.out 2).trans rfl, (blk_cell BK139.out 3).trans rfl⟩ (fun hHeld => ?_); refine with_tabW impl_signAt.tab6 impl_signAt.bits6 (fun HT_ HW_ => ?_)
                  generalize wr.drew = w22 at HO_16 HO_140001 HO_140002 BK138 BK139 HB hHeld ⊢
                  refine pure_ (i := 0) (N := some 26) (v := ?_) (a' := ?_) #[true, false, false, false, false, false, false, false, false, false, false] rfl rfl (any_of HT_.out (by kernel_rfl)) (fun _ _ _ h => h) (Or.inl ⟨by rfl, ?_⟩) ?_ ?_
                  rotate_left
                  · intro w'
                    go_simp
                    with_reducible rfl
                  rotate_left
                  · simp only [Act.put, List.setIfInBounds_toArray, List.set_cons_zero, List.set_cons_succ, i64_w, i32_w]
                    rfl
                  refine pure_ (i := 2) (N := some 28) (v := ?_) (a' := ?_) #[true, false, true, false, false, false, false, false, false, false, false] rfl rfl (any_of HT_.out (by kernel_rfl)) (fun _ _ _ h => h) (Or.inl ⟨by rfl, ?_⟩) ?_ ?_
                  rotate_left
                  · intro w'
                    go_simp
                    with_reducible rfl
                  rotate_left
                  · simp only [Act.put, List.setIfInBounds_toArray, List.set_cons_zero, List.set_cons_succ, i64_w, i32_w]
                    rfl
                  refine pure_ (i := 3) (N := some 29) (v := ?_) (a' := ?_) #[true, false, true, true, false, false, false, false, false, false, false] rfl rfl (any_of HT_.out (by kernel_rfl)) (fun _ _ _ h => h) (Or.inl ⟨by rfl, ?_⟩) ?_ ?_
                  rotate_left
                  · intro w'
                    go_simp
                    with_reducible rfl
                  rotate_left
                  · simp only [Act.put, List.setIfInBounds_toArray, List.set_cons_zero, List.set_cons_succ, i64_w, i32_w]
                    rfl
                  refine pure_ (i := 4) (N := some 30) (v := ?_) (a' := ?_) #[true, false, true, true, true, false, false, false, false, false, false] rfl rfl (any_of HT_.out (by kernel_rfl)) (fun _ _ _ h => h) (Or.inl ⟨by rfl, ?_⟩) ?_ ?_
                  rotate_left
                  · intro w'
                    go_simp
                    with_reducible rfl
                  rotate_left
                  · simp only [Act.put, List.setIfInBounds_toArray, List.set_cons_zero, List.set_cons_succ, i64_w, i32_w]
                    rfl
                  refine pure_ (i := 5) (N := some 31) (v := ?_) (a' := ?_) #[true, false, true, true, true, true, false, false, false, false, false] rfl rfl (any_of HT_.out (by kernel_rfl)) (fun _ _ _ h => h) (Or.inl ⟨by rfl, ?_⟩) ?_ ?_
                  rotate_left
                  · intro w'
                    go_simp
                    with_reducible rfl
                  rotate_left
                  · simp only [Act.put, List.setIfInBounds_toArray, List.set_cons_zero, List.set_cons_succ, i64_w, i32_w]
                    rfl
                  refine take_ (i := 1) (N := some 27) (v := ?_) (a' := ?_) #[true, true, true, true, true, true, false, false, false, false, false] rfl rfl (take_ofW HT_.out HW_.out (by kernel_rfl)) (fun _ _ _ h => h) (Or.inl ⟨by rfl, ?_⟩) hHeld ?_ ?_
                  rotate_left
                  · rintro w' ⟨s0, s1, s2, s3⟩
                    go_simp
                    with_reducible rfl
                  rotate_left
                  · simp only [Act.put, List.setIfInBounds_toArray, List.set_cons_zero, List.set_cons_succ, i64_w, i32_w]
                    rfl
                  refine one_ (i := 6) (N := some 32) #[true, true, true, true, true, true, true, false, false, false, false] rfl rfl (one_of HT_.out (by kernel_rfl)) (by decide) (fun K hK => ?_)
                  refine goes_ Tryd.func74 (by kernel_rfl) rfl #[.string a0, .int .i64 a1, .int .i64 x18_1, .int .i64 (((rd y141 x18_1) - 48) % 256)] (by rfl) rfl rfl (by (try simp only [List.map_toArray, List.map_cons, List.map_nil]); first | done | rfl | (simp only [List.length_drop, List.length_take]; rfl)) ?_
                  with_reducible refine (impl_secret.calls k1 a0 a1 x18_1 (((rd y141 x18_1) - 48) % 256) t145 _ ?side1 A17.out).mono ?_
                  (case side1 => exact Go.Proofs.YtmkaknegjahjaaaDoor.Sha.glob_below hG_ (by repeat (first | (with_reducible first | exact HB.out | apply qg4 | apply qh4 | apply qi4 | refine qj4 ?_ GE138.out | refine qj4 ?_ GE139.out) | exact HB.out)))
                  rintro e w23 ⟨rfl, hb⟩
                  refine ⟨_, rfl, ?_⟩
                  have n0_ := qk4 (Kd.R_below (by (with_reducible repeat (first | apply qd4 | apply qe4 | apply qf4)); exact HO_16.out) hb)
                  have n1_ := qk4 (Kd.R_below (by (with_reducible repeat (first | apply qd4 | apply qe4 | apply qf4)); exact HO_140001.out) hb)
                  have n2_ := qk4 (Kd.R_below (by (with_reducible repeat (first | apply qd4 | apply qe4 | apply qf4)); exact HO_140002.out) hb)
                  have n3_ := qk4 (blk_below (g := gb138) (o := .cells #[.int .i64 0, .slice none 0 0, .slice none 0 0, .slice none 0 0] 33 (0, 0)) (by (with_reducible repeat (first | apply qa4 | apply qb4 | apply qc4)); exact BK138.out) hb)
                  have n4_ := qk4 (blk_below (g := gb139) (o := .cells #[.int .i64 a1, u140001, u140002, .slice none 0 0] 33 (0, 0)) (by (with_reducible repeat (first | apply qa4 | apply qb4 | apply qc4)); exact BK139.out) hb)
                  have n5_ := qk4 (below_step (by repeat (first | (with_reducible first | exact HB.out | apply qg4 | apply qh4 | apply qi4 | refine qj4 ?_ GE138.out | refine qj4 ?_ GE139.out) | exact HB.out)) hb)
                  clear HO_16
                  clear HO_140001
                  clear HO_140002
                  clear BK138
                  clear BK139
                  clear HB
                  have HO_16 := n0_
                  have HO_140001 := n1_
                  have HO_140002 := n2_
                  have BK138 := n3_
                  have BK139 := n4_
                  have HB := n5_
                  clear n0_ n1_ n2_ n3_ n4_ n5_
                  (try clear hb)
                  (try clear hb2)
                  (try clear hk)
                  (try clear hi)
                  refine hK.out _ _ ⟨(blk_cell BK139.out 0).trans rfl, (blk_cell BK139.out 1).trans rfl, (blk_cell BK139.out 2).trans rfl, (blk_cell BK139.out 3).trans rfl⟩ (fun hHeld => ?_)
                  clear hK K
                  refine norm_ (a' := ?_) ?_ ?_
                  rotate_left
                  · show Act.put _ (some 32) _ = _
                    simp only [Act.put, List.setIfInBounds_toArray, List.set_cons_zero, List.set_cons_succ, i64_w, i32_w]
                    rfl
                  refine one_ (i := 7) (N := some 33) #[true, true, true, true, true, true, true, true, false, false, false] rfl rfl (one_of HT_.out (by kernel_rfl)) (by decide) (fun K hK => ?_)
                  refine value_ (w1 := ?_) (v := ?_) (by rfl) rfl ?_ ?_
                  rotate_left 2
                  · go_simp
                    constructor
                    · rfl
                    · rfl
                  refine hK.out _ _ ⟨(blk_cell (qc4 BK139.out _) 0).trans rfl, (blk_cell (qc4 BK139.out _) 1).trans rfl, (blk_cell (qc4 BK139.out _) 2).trans rfl, (blk_cell (qc4 BK139.out _) 3).trans rfl⟩ (fun hHeld => ?_)
                  clear hK K
                  refine norm_ (a' := ?_) ?_ ?_
                  rotate_left
                  · show Act.put _ (some 33) _ = _
                    simp only [Act.put, List.setIfInBounds_toArray, List.set_cons_zero, List.set_cons_succ, i64_w, i32_w]
                    rfl
                  refine one_ (i := 8) (N := some 34) #[true, true, true, true, true, true, true, true, true, false, false] rfl rfl (one_of HT_.out (by kernel_rfl)) (by decide) (fun K hK => ?_)
                  refine Kd.R_append_step Kd.string (w0 := w) w.heap.size (by rfl) (.tmp 27) (.tmp 33) 31 9 (.string ⟨#[]⟩) 16 rfl Tryd.underlying31 info9 rfl (by decide) (by omega) u140001 x140001_1 t145 [.string t145] (fun k_ => some k_ ≠ (u140002 : Value).ownBlock) (fun _ => False) rfl rfl ?aP (fun _ hk => hk.elim) ?aF ?aO ?aB ?aS ?aL ?_
                  (case aP => exact rfl)
                  (case aB => exact (by repeat (first | (with_reducible first | exact HB.out | apply qg4 | apply qh4 | apply qi4 | refine qj4 ?_ GE138.out | refine qj4 ?_ GE139.out) | exact HB.out)))
                  (case aF => exact (fun k_ hk => Kd.fresh' (Kd.R_lt (by (with_reducible repeat (first | apply qd4 | apply qe4 | apply qf4)); exact HO_140002.out)) k_ hk))
                  (case aO => exact (by (with_reducible repeat (first | apply qd4 | apply qe4 | apply qf4)); exact HO_140001.out))
                  (case aS => exact (below_size (by repeat (first | (with_reducible first | exact HB.out | apply qg4 | apply qh4 | apply qi4 | refine qj4 ?_ GE138.out | refine qj4 ?_ GE139.out) | exact HB.out))))
                  (case aL => have := LMc18.out; omega)
                  intro v147 w24 ho hb hg hat
                  rw [← Ny146.out] at ho
                  have n0_ := qk4 (Kd.R_over' (by (with_reducible repeat (first | apply qd4 | apply qe4 | apply qf4)); exact HO_16.out) (Kd.R_typed (by (with_reducible repeat (first | apply qd4 | apply qe4 | apply qf4)); exact HO_140001.out)) (by decide) hg)
                  have n1_ := qk4 (Kd.R_after (ok := (fun _ => True)) (by (with_reducible repeat (first | apply qd4 | apply qe4 | apply qf4)); exact ql4 HO_140002.out (fun _ hk => ⟨trivial, hk⟩)) hg hat)
                  have n2_ := qk4 (blk_grown (g := gb138) (o := .cells #[.int .i64 0, .slice none 0 0, .slice none 0 0, .slice none 0 0] 33 (0, 0)) (by (with_reducible repeat (first | apply qa4 | apply qb4 | apply qc4)); exact BK138.out) hg (Kd.R_ne HO_140001.out BK138.out (by decide)))
                  have n3_ := qk4 (blk_grown (g := gb139) (o := .cells #[.int .i64 a1, u140001, u140002, .slice none 0 0] 33 (0, 0)) (by (with_reducible repeat (first | apply qa4 | apply qb4 | apply qc4)); exact BK139.out) hg (Kd.R_ne HO_140001.out BK139.out (by decide)))
                  have n4_ := qk4 (hb)
                  have n5_ := qk4 (ho)
                  clear HO_16
                  clear HO_140002
                  clear BK138
                  clear BK139
                  clear HB
                  clear HO_140001
                  have HO_16 := n0_
                  have HO_140002 := n1_
                  have BK138 := n2_
                  have BK139 := n3_
                  have HB := n4_
                  have HO148 := n5_
                  clear n0_ n1_ n2_ n3_ n4_ n5_
                  clear ho hb hg hat
                  obtain ⟨Ao25, co25, eo25⟩ := Kd.R_slice HO148.out
                  (first | subst eo25 | (injection eo25 with f1_ f2_ f3_; have f4_ := f1_.symm; have f5_ := f3_.symm; clear f1_ f2_ f3_; subst f4_; subst f5_))
                  refine hK.out _ _ ⟨(blk_cell BK139.out 0).trans rfl, (blk_cell BK139.out 1).trans rfl, (blk_cell BK139.out 2).trans rfl, (blk_cell BK139.out 3).trans rfl⟩ (fun hHeld => ?_)
                  clear hK K
                  refine norm_ (a' := ?_) ?_ ?_
                  rotate_left
                  · show Act.put _ (some 34) _ = _
                    simp only [Act.put, List.setIfInBounds_toArray, List.set_cons_zero, List.set_cons_succ, i64_w, i32_w]
                    rfl
                  refine pure_ (i := 9) (N := some 35) (v := ?_) (a' := ?_) #[true, true, true, true, true, true, true, true, true, true, false] rfl rfl (any_of HT_.out (by kernel_rfl)) (fun _ _ _ h => h) (Or.inl ⟨by rfl, ?_⟩) ?_ ?_
                  rotate_left
                  · intro w'
                    go_simp
                    with_reducible rfl
                  rotate_left
                  · simp only [Act.put, List.setIfInBounds_toArray, List.set_cons_zero, List.set_cons_succ, i64_w, i32_w]
                    rfl
                  refine last_ (i := 10) (N := none) #[true, true, true, true, true, true, true, true, true, true, true] rfl rfl (one_of HT_.out (by kernel_rfl)) (by decide) (fun K hK => ?_)
                  have hs26 : w24.cell? ⟨gb139, 1, none⟩ = some (u140001) := (blk_cell BK139.out 1).trans rfl
                  have hfs26 := blk_frozen BK139.out 1
                  have hns26_0 := NB138_139.out
                  have hms26_0 := NB139_138.out
                  refine skip_ (w1 := ?_) (by rfl) rfl ?_ ?_
                  rotate_left
                  · go_simp
                    rfl
                  refine hK.out _ _ ?_
                  clear hK K
                  refine done_ (done_of HT_.out (by kernel_rfl)) ?_
                  try go_wp2
                  have n0_ : Aside0 (Kd.R (Kd.int .u8) 5 (w24.setCell ⟨gb139, 1, none⟩ (.slice Ao25 y146.length co25)) w.heap.size (fun _ => True) (.slice (some ad144) y141.length co13) y141) := ⟨by (with_reducible repeat (first | apply qd4 | apply qe4 | apply qf4)); exact ql4 (Kd.R_far (p := ⟨gb139, 1, none⟩) (Kd.R_types HO_16.out BK139.out (by decide)) (fun _ hk => hk.2) (.slice Ao25 y146.length co25)) (fun _ hk => trivial)⟩
                  have n1_ : Aside0 (Kd.R Kd.string 9 (w24.setCell ⟨gb139, 1, none⟩ (.slice Ao25 y146.length co25)) w.heap.size (fun k_ => some k_ ≠ (.slice Ao25 y146.length co25 : Value).ownBlock) u140002 x140002_1) := ⟨by (with_reducible repeat (first | apply qd4 | apply qe4 | apply qf4)); exact ql4 (Kd.R_far (p := ⟨gb139, 1, none⟩) (Kd.R_types HO_140002.out BK139.out (by decide)) (fun _ hk => hk.2) (.slice Ao25 y146.length co25)) (fun _ hk => hk.1.2)⟩
                  have n2_ : Aside0 (Kd.R Kd.string 9 (w24.setCell ⟨gb139, 1, none⟩ (.slice Ao25 y146.length co25)) w.heap.size (fun k_ => some k_ ≠ (u140002 : Value).ownBlock) (.slice Ao25 y146.length co25) y146) := ⟨by (with_reducible repeat (first | apply qd4 | apply qe4 | apply qf4)); exact ql4 (Kd.R_far (p := ⟨gb139, 1, none⟩) (Kd.R_types HO148.out BK139.out (by decide)) (fun _ hk => hk.2) (.slice Ao25 y146.length co25)) (fun _ hk => hk.1)⟩
                  have n3_ : Aside0 ((w24.setCell ⟨gb139, 1, none⟩ (.slice Ao25 y146.length co25)).heap[gb138]? = some (.cells #[.int .i64 0, .slice none 0 0, .slice none 0 0, .slice none 0 0] 33 (0, 0))) := ⟨by (with_reducible repeat (first | apply qa4 | apply qb4 | apply qc4)); refine blk_far ?_ NB138_139.out _; (with_reducible repeat (first | apply qa4 | apply qb4 | apply qc4)); exact BK138.out⟩
                  have n4_ : Aside0 ((w24.setCell ⟨gb139, 1, none⟩ (.slice Ao25 y146.length co25)).heap[gb139]? = some (.cells #[.int .i64 a1, .slice Ao25 y146.length co25, u140002, .slice none 0 0] 33 (0, 0))) := ⟨by (with_reducible repeat (first | apply qa4 | apply qb4 | apply qc4)); refine blk_put (cs := #[.int .i64 a1, u140001, u140002, .slice none 0 0]) ?_ 1 _ rfl; (with_reducible repeat (first | apply qa4 | apply qb4 | apply qc4)); exact BK139.out⟩
                  have n5_ : Aside0 (Below w.heap.size w (w24.setCell ⟨gb139, 1, none⟩ (.slice Ao25 y146.length co25))) := ⟨by repeat (first | (with_reducible first | exact HB.out | apply qg4 | apply qh4 | apply qi4 | refine qj4 ?_ GE138.out | refine qj4 ?_ GE139.out) | exact HB.out)⟩
                  (try clear HO_16)
                  (try clear HO_140002)
                  (try clear HO148)
                  (try clear BK138)
                  (try clear BK139)
                  (try clear HB)
                  generalize (w24.setCell ⟨gb139, 1, none⟩ (.slice Ao25 y146.length co25)) = w27 at n0_ n1_ n2_ n3_ n4_ n5_ ⊢
                  have HO_16 := n0_
                  have HO_140002 := n1_
                  have HO148 := n2_
                  have BK138 := n3_
                  have BK139 := n4_
                  have HB := n5_
                  clear n0_ n1_ n2_ n3_ n4_ n5_
                  have n0_ := qk4 (qf4 HO_16.out)
                  have n1_ := qk4 (qf4 HO_140002.out)
                  have n2_ := qk4 (qf4 HO148.out)
                  have n3_ := qk4 (qb4 BK138.out)
                  have n4_ := qk4 (qb4 BK139.out)
                  have n5_ := qk4 (qi4 HB.out)
                  clear HO_16
                  clear HO_140002
                  clear HO148
                  clear BK138
                  clear BK139
                  clear HB
                  have HO_16 := n0_
                  have HO_140002 := n1_
                  have HO148 := n2_
                  have BK138 := n3_
                  have BK139 := n4_
                  have HB := n5_
                  clear n0_ n1_ n2_ n3_ n4_ n5_
                  refine start_ (n := 13) (S := fun w' => w'.cell? ⟨gb139, 0, none⟩ = some (.int .i64 a1) ∧ w'.cell? ⟨gb139, 1, none⟩ = some (.slice Ao25 y146.length co25) ∧ w'.cell? ⟨gb139, 2, none⟩ = some (u140002) ∧ w'.cell? ⟨gb139, 3, none⟩ = some (.slice none 0 0)) (ds := [12]) #[false, false, false, false, false, false, false, false, false, false, false, false, false] (by kernel_rfl) rfl rfl ⟨(blk_cell BK139.out 0).trans rfl, (blk_cell BK139.out 1).trans rfl, (blk_cell BK139.out 2).trans rfl, (blk_cell BK139.out 3).trans rfl⟩ (fun hHeld => ?_); refine with_tabW impl_signAt.tab7 impl_signAt.bits7 (fun HT_ HW_ => ?_)
                  generalize w27.drew = w28 at HO_16 HO_140002 HO148 BK138 BK139 HB hHeld ⊢
                  refine pure_ (i := 0) (N := some 36) (v := ?_) (a' := ?_) #[true, false, false, false, false, false, false, false, false, false, false, false, false] rfl rfl (any_of HT_.out (by kernel_rfl)) (fun _ _ _ h => h) (Or.inl ⟨by rfl, ?_⟩) ?_ ?_
                  rotate_left
                  · intro w'
                    go_simp
                    with_reducible rfl
                  rotate_left
                  · simp only [Act.put, List.setIfInBounds_toArray, List.set_cons_zero, List.set_cons_succ, i64_w, i32_w]
                    rfl
                  refine pure_ (i := 2) (N := some 38) (v := ?_) (a' := ?_) #[true, false, true, false, false, false, false, false, false, false, false, false, false] rfl rfl (any_of HT_.out (by kernel_rfl)) (fun _ _ _ h => h) (Or.inl ⟨by rfl, ?_⟩) ?_ ?_
                  rotate_left
                  · intro w'
                    go_simp
                    with_reducible rfl
                  rotate_left
                  · simp only [Act.put, List.setIfInBounds_toArray, List.set_cons_zero, List.set_cons_succ, i64_w, i32_w]
                    rfl
                  refine pure_ (i := 3) (N := some 39) (v := ?_) (a' := ?_) #[true, false, true, true, false, false, false, false, false, false, false, false, false] rfl rfl (any_of HT_.out (by kernel_rfl)) (fun _ _ _ h => h) (Or.inl ⟨by rfl, ?_⟩) ?_ ?_
                  rotate_left
                  · intro w'
                    go_simp
                    with_reducible rfl
                  rotate_left
                  · simp only [Act.put, List.setIfInBounds_toArray, List.set_cons_zero, List.set_cons_succ, i64_w, i32_w]
                    rfl
                  refine pure_ (i := 4) (N := some 40) (v := ?_) (a' := ?_) #[true, false, true, true, true, false, false, false, false, false, false, false, false] rfl rfl (any_of HT_.out (by kernel_rfl)) (fun _ _ _ h => h) (Or.inl ⟨by rfl, ?_⟩) ?_ ?_
                  rotate_left
                  · intro w'
                    go_simp
                    with_reducible rfl
                  rotate_left
                  · simp only [Act.put, List.setIfInBounds_toArray, List.set_cons_zero, List.set_cons_succ, i64_w, i32_w]
                    rfl
                  refine pure_ (i := 5) (N := some 41) (v := ?_) (a' := ?_) #[true, false, true, true, true, true, false, false, false, false, false, false, false] rfl rfl (any_of HT_.out (by kernel_rfl)) (fun _ _ _ h => h) (Or.inl ⟨by rfl, ?_⟩) ?_ ?_
                  rotate_left
                  · intro w'
                    go_simp
                    with_reducible rfl
                  rotate_left
                  · simp only [Act.put, List.setIfInBounds_toArray, List.set_cons_zero, List.set_cons_succ, i64_w, i32_w]
                    rfl
                  refine pure_ (i := 6) (N := some 42) (v := ?_) (a' := ?_) #[true, false, true, true, true, true, true, false, false, false, false, false, false] rfl rfl (any_of HT_.out (by kernel_rfl)) (fun _ _ _ h => h) (Or.inl ⟨by rfl, ?_⟩) ?_ ?_
                  rotate_left
                  · intro w'
                    go_simp
                    with_reducible rfl
                  rotate_left
                  · simp only [Act.put, List.setIfInBounds_toArray, List.set_cons_zero, List.set_cons_succ, i64_w, i32_w]
                    rfl
                  refine take_ (i := 1) (N := some 37) (v := ?_) (a' := ?_) #[true, true, true, true, true, true, true, false, false, false, false, false, false] rfl rfl (take_ofW HT_.out HW_.out (by kernel_rfl)) (fun _ _ _ h => h) (Or.inl ⟨by rfl, ?_⟩) hHeld ?_ ?_
                  rotate_left
                  · rintro w' ⟨s0, s1, s2, s3⟩
                    go_simp
                    with_reducible rfl
                  rotate_left
                  · simp only [Act.put, List.setIfInBounds_toArray, List.set_cons_zero, List.set_cons_succ, i64_w, i32_w]
                    rfl
                  refine one_ (i := 7) (N := some 43) #[true, true, true, true, true, true, true, true, false, false, false, false, false] rfl rfl (one_of HT_.out (by kernel_rfl)) (by decide) (fun K hK => ?_)
                  refine goes_ Tryd.func74 (by kernel_rfl) rfl #[.string a0, .int .i64 a1, .int .i64 x18_1, .int .i64 (wrap64 (1 - (((rd y141 x18_1) - 48) % 256)))] (by rfl) rfl rfl (by (try simp only [List.map_toArray, List.map_cons, List.map_nil]); first | done | rfl | (simp only [List.length_drop, List.length_take]; rfl)) ?_
                  with_reducible refine (impl_secret.calls k1 a0 a1 x18_1 (wrap64 (1 - (((rd y141 x18_1) - 48) % 256))) t149 _ ?side1 A19.out).mono ?_
                  (case side1 => exact Go.Proofs.YtmkaknegjahjaaaDoor.Sha.glob_below hG_ (by repeat (first | (with_reducible first | exact HB.out | apply qg4 | apply qh4 | apply qi4 | refine qj4 ?_ GE138.out | refine qj4 ?_ GE139.out) | exact HB.out)))
                  rintro e w29 ⟨rfl, hb⟩
                  refine ⟨_, rfl, ?_⟩
                  have n0_ := qk4 (Kd.R_below (by (with_reducible repeat (first | apply qd4 | apply qe4 | apply qf4)); exact HO_16.out) hb)
                  have n1_ := qk4 (Kd.R_below (by (with_reducible repeat (first | apply qd4 | apply qe4 | apply qf4)); exact HO_140002.out) hb)
                  have n2_ := qk4 (Kd.R_below (by (with_reducible repeat (first | apply qd4 | apply qe4 | apply qf4)); exact HO148.out) hb)
                  have n3_ := qk4 (blk_below (g := gb138) (o := .cells #[.int .i64 0, .slice none 0 0, .slice none 0 0, .slice none 0 0] 33 (0, 0)) (by (with_reducible repeat (first | apply qa4 | apply qb4 | apply qc4)); exact BK138.out) hb)
                  have n4_ := qk4 (blk_below (g := gb139) (o := .cells #[.int .i64 a1, .slice Ao25 y146.length co25, u140002, .slice none 0 0] 33 (0, 0)) (by (with_reducible repeat (first | apply qa4 | apply qb4 | apply qc4)); exact BK139.out) hb)
                  have n5_ := qk4 (below_step (by repeat (first | (with_reducible first | exact HB.out | apply qg4 | apply qh4 | apply qi4 | refine qj4 ?_ GE138.out | refine qj4 ?_ GE139.out) | exact HB.out)) hb)
                  clear HO_16
                  clear HO_140002
                  clear HO148
                  clear BK138
                  clear BK139
                  clear HB
                  have HO_16 := n0_
                  have HO_140002 := n1_
                  have HO148 := n2_
                  have BK138 := n3_
                  have BK139 := n4_
                  have HB := n5_
                  clear n0_ n1_ n2_ n3_ n4_ n5_
                  (try clear hb)
                  (try clear hb2)
                  (try clear hk)
                  (try clear hi)
                  refine hK.out _ _ ⟨(blk_cell BK139.out 0).trans rfl, (blk_cell BK139.out 1).trans rfl, (blk_cell BK139.out 2).trans rfl, (blk_cell BK139.out 3).trans rfl⟩ (fun hHeld => ?_)
                  clear hK K
                  refine norm_ (a' := ?_) ?_ ?_
                  rotate_left
                  · show Act.put _ (some 43) _ = _
                    simp only [Act.put, List.setIfInBounds_toArray, List.set_cons_zero, List.set_cons_succ, i64_w, i32_w]
                    rfl
                  refine one_ (i := 8) (N := some 44) #[true, true, true, true, true, true, true, true, true, false, false, false, false] rfl rfl (one_of HT_.out (by kernel_rfl)) (by decide) (fun K hK => ?_)
                  refine goes_ Tryd.func50 (by kernel_rfl) rfl #[.string t149] (by rfl) rfl rfl (by (try simp only [List.map_toArray, List.map_cons, List.map_nil]); first | done | rfl | (simp only [List.length_drop, List.length_take]; rfl)) ?_
                  with_reducible refine (impl_hash.calls t149 t150 _ ?side1 A20.out).mono ?_
                  (case side1 => exact Go.Proofs.YtmkaknegjahjaaaDoor.Sha.glob_below hG_ (by repeat (first | (with_reducible first | exact HB.out | apply qg4 | apply qh4 | apply qi4 | refine qj4 ?_ GE138.out | refine qj4 ?_ GE139.out) | exact HB.out)))
                  rintro e w30 ⟨rfl, hb⟩
                  refine ⟨_, rfl, ?_⟩
                  have n0_ := qk4 (Kd.R_below (by (with_reducible repeat (first | apply qd4 | apply qe4 | apply qf4)); exact HO_16.out) hb)
                  have n1_ := qk4 (Kd.R_below (by (with_reducible repeat (first | apply qd4 | apply qe4 | apply qf4)); exact HO_140002.out) hb)
                  have n2_ := qk4 (Kd.R_below (by (with_reducible repeat (first | apply qd4 | apply qe4 | apply qf4)); exact HO148.out) hb)
                  have n3_ := qk4 (blk_below (g := gb138) (o := .cells #[.int .i64 0, .slice none 0 0, .slice none 0 0, .slice none 0 0] 33 (0, 0)) (by (with_reducible repeat (first | apply qa4 | apply qb4 | apply qc4)); exact BK138.out) hb)
                  have n4_ := qk4 (blk_below (g := gb139) (o := .cells #[.int .i64 a1, .slice Ao25 y146.length co25, u140002, .slice none 0 0] 33 (0, 0)) (by (with_reducible repeat (first | apply qa4 | apply qb4 | apply qc4)); exact BK139.out) hb)
                  have n5_ := qk4 (below_step (by repeat (first | (with_reducible first | exact HB.out | apply qg4 | apply qh4 | apply qi4 | refine qj4 ?_ GE138.out | refine qj4 ?_ GE139.out) | exact HB.out)) hb)
                  clear HO_16
                  clear HO_140002
                  clear HO148
                  clear BK138
                  clear BK139
                  clear HB
                  have HO_16 := n0_
                  have HO_140002 := n1_
                  have HO148 := n2_
                  have BK138 := n3_
                  have BK139 := n4_
                  have HB := n5_
                  clear n0_ n1_ n2_ n3_ n4_ n5_
                  (try clear hb)
                  (try clear hb2)
                  (try clear hk)
                  (try clear hi)
                  refine hK.out _ _ ⟨(blk_cell BK139.out 0).trans rfl, (blk_cell BK139.out 1).trans rfl, (blk_cell BK139.out 2).trans rfl, (blk_cell BK139.out 3).trans rfl⟩ (fun hHeld => ?_)
                  clear hK K
                  refine norm_ (a' := ?_) ?_ ?_
                  rotate_left
                  · show Act.put _ (some 44) _ = _
                    simp only [Act.put, List.setIfInBounds_toArray, List.set_cons_zero, List.set_cons_succ, i64_w, i32_w]
                    rfl
                  refine one_ (i := 9) (N := some 45) #[true, true, true, true, true, true, true, true, true, true, false, false, false] rfl rfl (one_of HT_.out (by kernel_rfl)) (by decide) (fun K hK => ?_)
                  refine value_ (w1 := ?_) (v := ?_) (by rfl) rfl ?_ ?_
                  rotate_left 2
                  · go_simp
                    constructor
                    · rfl
                    · rfl
                  refine hK.out _ _ ⟨(blk_cell (qc4 BK139.out _) 0).trans rfl, (blk_cell (qc4 BK139.out _) 1).trans rfl, (blk_cell (qc4 BK139.out _) 2).trans rfl, (blk_cell (qc4 BK139.out _) 3).trans rfl⟩ (fun hHeld => ?_)
                  clear hK K
                  refine norm_ (a' := ?_) ?_ ?_
                  rotate_left
                  · show Act.put _ (some 45) _ = _
                    simp only [Act.put, List.setIfInBounds_toArray, List.set_cons_zero, List.set_cons_succ, i64_w, i32_w]
                    rfl
                  refine one_ (i := 10) (N := some 46) #[true, true, true, true, true, true, true, true, true, true, true, false, false] rfl rfl (one_of HT_.out (by kernel_rfl)) (by decide) (fun K hK => ?_)
                  refine Kd.R_append_step Kd.string (w0 := w) w.heap.size (by rfl) (.tmp 37) (.tmp 45) 31 9 (.string ⟨#[]⟩) 16 rfl Tryd.underlying31 info9 rfl (by decide) (by omega) u140002 x140002_1 t150 [.string t150] (fun k_ => some k_ ≠ (.slice Ao25 y146.length co25 : Value).ownBlock) (fun _ => False) rfl rfl ?aP (fun _ hk => hk.elim) ?aF ?aO ?aB ?aS ?aL ?_
                  (case aP => exact rfl)
                  (case aB => exact (by repeat (first | (with_reducible first | exact HB.out | apply qg4 | apply qh4 | apply qi4 | refine qj4 ?_ GE138.out | refine qj4 ?_ GE139.out) | exact HB.out)))
                  (case aF => exact (fun k_ hk => Kd.fresh' (Kd.R_lt (by (with_reducible repeat (first | apply qd4 | apply qe4 | apply qf4)); exact HO148.out)) k_ hk))
                  (case aO => exact (by (with_reducible repeat (first | apply qd4 | apply qe4 | apply qf4)); exact HO_140002.out))
                  (case aS => exact (below_size (by repeat (first | (with_reducible first | exact HB.out | apply qg4 | apply qh4 | apply qi4 | refine qj4 ?_ GE138.out | refine qj4 ?_ GE139.out) | exact HB.out))))
                  (case aL => have := LMc21.out; omega)
                  intro v152 w31 ho hb hg hat
                  rw [← Ny151.out] at ho
                  have n0_ := qk4 (Kd.R_over' (by (with_reducible repeat (first | apply qd4 | apply qe4 | apply qf4)); exact HO_16.out) (Kd.R_typed (by (with_reducible repeat (first | apply qd4 | apply qe4 | apply qf4)); exact HO_140002.out)) (by decide) hg)
                  have n1_ := qk4 (blk_grown (g := gb138) (o := .cells #[.int .i64 0, .slice none 0 0, .slice none 0 0, .slice none 0 0] 33 (0, 0)) (by (with_reducible repeat (first | apply qa4 | apply qb4 | apply qc4)); exact BK138.out) hg (Kd.R_ne HO_140002.out BK138.out (by decide)))
                  have n2_ := qk4 (blk_grown (g := gb139) (o := .cells #[.int .i64 a1, .slice Ao25 y146.length co25, u140002, .slice none 0 0] 33 (0, 0)) (by (with_reducible repeat (first | apply qa4 | apply qb4 | apply qc4)); exact BK139.out) hg (Kd.R_ne HO_140002.out BK139.out (by decide)))
                  have n3_ := qk4 (Kd.R_after (ok := (fun _ => True)) (by (with_reducible repeat (first | apply qd4 | apply qe4 | apply qf4)); exact ql4 HO148.out (fun _ hk => ⟨trivial, hk⟩)) hg hat)
                  have n4_ := qk4 (hb)
                  have n5_ := qk4 (ho)
                  clear HO_16
                  clear BK138
                  clear BK139
                  clear HO148
                  clear HB
                  clear HO_140002
                  have HO_16 := n0_
                  have BK138 := n1_
                  have BK139 := n2_
                  have HO148 := n3_
                  have HB := n4_
                  have HO153 := n5_
                  clear n0_ n1_ n2_ n3_ n4_ n5_
                  clear ho hb hg hat
                  obtain ⟨Ao32, co32, eo32⟩ := Kd.R_slice HO153.out
                  (first | subst eo32 | (injection eo32 with f1_ f2_ f3_; have f4_ := f1_.symm; have f5_ := f3_.symm; clear f1_ f2_ f3_; subst f4_; subst f5_))
                  refine hK.out _ _ ⟨(blk_cell BK139.out 0).trans rfl, (blk_cell BK139.out 1).trans rfl, (blk_cell BK139.out 2).trans rfl, (blk_cell BK139.out 3).trans rfl⟩ (fun hHeld => ?_)
                  clear hK K
                  refine norm_ (a' := ?_) ?_ ?_
                  rotate_left
                  · show Act.put _ (some 46) _ = _
                    simp only [Act.put, List.setIfInBounds_toArray, List.set_cons_zero, List.set_cons_succ, i64_w, i32_w]
                    rfl
                  refine pure_ (i := 11) (N := some 47) (v := ?_) (a' := ?_) #[true, true, true, true, true, true, true, true, true, true, true, true, false] rfl rfl (any_of HT_.out (by kernel_rfl)) (fun _ _ _ h => h) (Or.inl ⟨by rfl, ?_⟩) ?_ ?_
                  rotate_left
                  · intro w'
                    go_simp
                    with_reducible rfl
                  rotate_left
                  · simp only [Act.put, List.setIfInBounds_toArray, List.set_cons_zero, List.set_cons_succ, i64_w, i32_w]
                    rfl
                  refine last_ (i := 12) (N := none) #[true, true, true, true, true, true, true, true, true, true, true, true, true] rfl rfl (one_of HT_.out (by kernel_rfl)) (by decide) (fun K hK => ?_)
                  have hs33 : w31.cell? ⟨gb139, 2, none⟩ = some (u140002) := (blk_cell BK139.out 2).trans rfl
                  have hfs33 := blk_frozen BK139.out 2
                  have hns33_0 := NB138_139.out
                  have hms33_0 := NB139_138.out
                  refine skip_ (w1 := ?_) (by rfl) rfl ?_ ?_
                  rotate_left
                  · go_simp
                    rfl
                  refine hK.out _ _ ?_
                  clear hK K
                  refine done_ (done_of HT_.out (by kernel_rfl)) ?_
                  try go_wp2
                  go_roundg k1
                  case measure => have := HK1.out; omega
                  case rel => exact ⟨(wrap64 (x18_1 + 1)), (y146), (y151), (.slice Ao25 y146.length co25), (.slice Ao32 y151.length co32), (by first | rfl | (simp; done) | (simp [*]; done)), H', ⟨by have := HK1.out; omega⟩, ⟨by (with_reducible repeat (first | apply qd4 | apply qe4 | apply qf4)); exact ql4 (Kd.R_far (p := ⟨gb139, 2, none⟩) (Kd.R_types HO_16.out BK139.out (by decide)) (fun _ hk => hk.2) (.slice Ao32 y151.length co32)) (fun _ hk => trivial)⟩, ⟨by (with_reducible repeat (first | apply qd4 | apply qe4 | apply qf4)); exact ql4 (Kd.R_far (p := ⟨gb139, 2, none⟩) (Kd.R_types HO148.out BK139.out (by decide)) (fun _ hk => hk.2) (.slice Ao32 y151.length co32)) (fun _ hk => hk.1.2)⟩, ⟨by (with_reducible repeat (first | apply qd4 | apply qe4 | apply qf4)); exact ql4 (Kd.R_far (p := ⟨gb139, 2, none⟩) (Kd.R_types HO153.out BK139.out (by decide)) (fun _ hk => hk.2) (.slice Ao32 y151.length co32)) (fun _ hk => hk.1)⟩, ⟨by (with_reducible repeat (first | apply qa4 | apply qb4 | apply qc4)); refine blk_far ?_ NB138_139.out _; (with_reducible repeat (first | apply qa4 | apply qb4 | apply qc4)); exact BK138.out⟩, ⟨by (with_reducible repeat (first | apply qa4 | apply qb4 | apply qc4)); refine blk_put (cs := #[.int .i64 a1, .slice Ao25 y146.length co25, u140002, .slice none 0 0]) ?_ 2 _ rfl; (with_reducible repeat (first | apply qa4 | apply qb4 | apply qc4)); exact BK139.out⟩, ⟨by repeat (first | (with_reducible first | exact HB.out | apply qg4 | apply qh4 | apply qi4 | refine qj4 ?_ GE138.out | refine qj4 ?_ GE139.out) | exact HB.out)⟩⟩
                · rw [if_neg c21] at H
                  exact absurd H (by simp)
              · rw [if_neg c18] at H
                exact absurd H (by simp)
            · rw [if_neg c16] at H
              exact absurd H (by simp)
          · rw [if_neg c15] at H
            exact absurd H (by simp)
        · rw [if_neg c14] at H
          have c14b0 : decide (x18_1 < (y141.length : Int)) = false := decide_eq_false c14
          clear c14
          replace H := Option.bind_eq_some_iff.mp H
          obtain ⟨t154, A340, H⟩ := H
          replace H : (impl_signAt.l1 k1 a1 t154 a1 x140001_1 x140002_1 ([] : List ByteArray)) = some (r1, r2, r3, r4) := H
          have A34 := qk4 A340
          clear A340
          have H' := qk4 H
          clear H
          go_wp2_with (first | ((with_reducible refine gate_callee (f := 106) rfl ?_); refine goesL_ (some 50) rfl rfl Tryd.func106 (by kernel_rfl) rfl #[.string a0] rfl (by (try simp only [List.map_toArray, List.map_cons, List.map_nil]); first | done | rfl | (simp only [List.length_drop, List.length_take]; rfl)) ?_; (with_reducible refine (impl_keys.calls k1 a0 t154 _ ?side1 A34.out).mono ?_); (case side1 => exact Go.Proofs.YtmkaknegjahjaaaDoor.Sha.glob_below hG_ (by repeat (first | (with_reducible first | exact HB.out | apply qg4 | apply qh4 | apply qi4 | refine qj4 ?_ GE138.out | refine qj4 ?_ GE139.out) | exact HB.out))); rintro e w35 ⟨v155, rfl, ho0, hb⟩; refine ⟨_, rfl, ?_⟩; have n0_ := qk4 (Kd.R_below (by (with_reducible repeat (first | apply qd4 | apply qe4 | apply qf4)); exact HO_16.out) hb); have n1_ := qk4 (Kd.R_elder' (by (with_reducible repeat (first | apply qd4 | apply qe4 | apply qf4)); exact HO_140001.out) (Kd.R_base ho0) hb); have n2_ := qk4 (Kd.R_elder' (by (with_reducible repeat (first | apply qd4 | apply qe4 | apply qf4)); exact HO_140002.out) (Kd.R_base ho0) hb); have n3_ := qk4 (Kd.R_lower (Kd.R_new' (Kd.R_new' ho0 (Kd.R_lt (by (with_reducible repeat (first | apply qd4 | apply qe4 | apply qf4)); exact HO_140001.out))) (Kd.R_lt (by (with_reducible repeat (first | apply qd4 | apply qe4 | apply qf4)); exact HO_140002.out))) (below_size (by repeat (first | (with_reducible first | exact HB.out | apply qg4 | apply qh4 | apply qi4 | refine qj4 ?_ GE138.out | refine qj4 ?_ GE139.out) | exact HB.out)))); have n4_ := qk4 (blk_below (g := gb138) (o := .cells #[.int .i64 0, .slice none 0 0, .slice none 0 0, .slice none 0 0] 33 (0, 0)) (by (with_reducible repeat (first | apply qa4 | apply qb4 | apply qc4)); exact BK138.out) hb); have n5_ := qk4 (blk_below (g := gb139) (o := .cells #[.int .i64 a1, u140001, u140002, .slice none 0 0] 33 (0, 0)) (by (with_reducible repeat (first | apply qa4 | apply qb4 | apply qc4)); exact BK139.out) hb); have n6_ := qk4 (below_step (by repeat (first | (with_reducible first | exact HB.out | apply qg4 | apply qh4 | apply qi4 | refine qj4 ?_ GE138.out | refine qj4 ?_ GE139.out) | exact HB.out)) hb); clear HO_16; clear HO_140001; clear HO_140002; clear BK138; clear BK139; clear HB; have HO_16 := n0_; have HO_140001 := n1_; have HO_140002 := n2_; have HO156 := n3_; have BK138 := n4_; have BK139 := n5_; have HB := n6_; clear n0_ n1_ n2_ n3_ n4_ n5_ n6_; (try clear hb); (try clear hb2); (try clear hk); (try clear hi); (try clear ho0)))
          go_loopg [1, 11] k1 (fun kq v1 v11 w' => ∃ (x1_2 : Int) (x11_2 : List ByteArray) (x140003_2 : List ByteArray) (u140003 : Value), v1 = .int .i64 x1_2 ∧ Aside0 (impl_signAt.l1 kq x1_2 x11_2 a1 x140001_1 x140002_1 x140003_2 = some (r1, r2, r3, r4)) ∧ Aside0 (kq ≤ k1) ∧ Aside0 (Kd.R Kd.string 9 w' w.heap.size (fun k_ => some k_ ≠ (u140001 : Value).ownBlock ∧ some k_ ≠ (u140002 : Value).ownBlock ∧ some k_ ≠ (u140003 : Value).ownBlock) v11 x11_2) ∧ Aside0 (Kd.R Kd.string 9 w' w.heap.size (fun k_ => some k_ ≠ (v11 : Value).ownBlock ∧ some k_ ≠ (u140002 : Value).ownBlock ∧ some k_ ≠ (u140003 : Value).ownBlock) u140001 x140001_1) ∧ Aside0 (Kd.R Kd.string 9 w' w.heap.size (fun k_ => some k_ ≠ (v11 : Value).ownBlock ∧ some k_ ≠ (u140001 : Value).ownBlock ∧ some k_ ≠ (u140003 : Value).ownBlock) u140002 x140002_1) ∧ Aside0 (Kd.R Kd.string 9 w' w.heap.size (fun k_ => some k_ ≠ (v11 : Value).ownBlock ∧ some k_ ≠ (u140001 : Value).ownBlock ∧ some k_ ≠ (u140002 : Value).ownBlock) u140003 x140003_2) ∧ Aside0 (w'.heap[gb138]? = some (.cells #[.int .i64 0, (.slice none 0 0), (.slice none 0 0), (.slice none 0 0)] 33 (0, 0))) ∧ Aside0 (w'.heap[gb139]? = some (.cells #[.int .i64 a1, u140001, u140002, u140003] 33 (0, 0))) ∧ Aside0 (Below w.heap.size w w'))
          case atStart => exact ⟨(a1), (t154), (([] : List ByteArray)), (.slice none 0 0), (by first | rfl | (simp; done) | (simp [*]; done)), H', ⟨Nat.le_refl _⟩, ⟨by (with_reducible repeat (first | apply qd4 | apply qe4 | apply qf4)); exact ql4 HO156.out (fun _ hk => ⟨hk.1.2, ⟨hk.2, (by simp [Value.ownBlock])⟩⟩)⟩, ⟨by (with_reducible repeat (first | apply qd4 | apply qe4 | apply qf4)); exact ql4 HO_140001.out (fun _ hk => ⟨hk.2, ⟨hk.1, (by simp [Value.ownBlock])⟩⟩)⟩, ⟨by (with_reducible repeat (first | apply qd4 | apply qe4 | apply qf4)); exact ql4 HO_140002.out (fun _ hk => ⟨hk.2, ⟨hk.1, (by simp [Value.ownBlock])⟩⟩)⟩, ⟨by first | exact Kd.R_nil _ _ _ _ _ | exact Kd.N_nil _ _ _ _ _ | exact Kd.V_nil _ _ _ _ _ | exact Kd.Q_nil _ _ _ _ _ | exact Kd.S_nil _ _ _ _ _⟩, ⟨by (with_reducible repeat (first | apply qa4 | apply qb4 | apply qc4)); exact BK138.out⟩, ⟨by (with_reducible repeat (first | apply qa4 | apply qb4 | apply qc4)); exact BK139.out⟩, ⟨by repeat (first | (with_reducible first | exact HB.out | apply qg4 | apply qh4 | apply qi4 | refine qj4 ?_ GE138.out | refine qj4 ?_ GE139.out) | exact HB.out)⟩⟩
          case round =>
            clear H'
            try clear c1
            try clear p1
            try clear q1
            try clear hx1
            try clear c2
            try clear p2
            try clear c5
            try clear c5b0
            try clear c5b1
            try clear c5b2
            try clear p6
            try clear c7
            try clear c8
            try clear c10
            try clear c14
            try clear c14b0
            try clear p14
            try clear q14
            try clear hx14
            try clear c15
            try clear c15b0
            try clear c16
            try clear c16b0
            try clear c18
            try clear c21
            try clear hcz9_0
            try clear hcz9_1
            try clear hcz9_2
            try clear hcz9_3
            try clear hfz9_0
            try clear hfz9_1
            try clear hfz9_2
            try clear hfz9_3
            try clear hx144_0
            try clear p144
            try clear p2
            try clear q144
            obtain ⟨x1_2, x11_2, x140003_2, u140003, rfl, HA, HK2, HO_11, HO_140001, HO_140002, HO_140003, BK138, BK139, HB⟩ := hrel
            cases gk with
            | zero => exact absurd HA.out (by simp [impl_signAt.l1])
            | succ k2 =>
              have H := HA.out
              clear HA
              simp only [impl_signAt.l1] at H
              by_cases c36 : (x11_2.length : Int) > 1
              · rw [if_pos c36] at H
                have c36b0 : decide (1 < (x11_2.length : Int)) = true := decide_eq_true c36
                have c36b1 : decide (1 < x11_2.length) = true := decide_eq_true (by omega)
                clear c36
                by_cases c37 : 0 ≤ (Go.bits .xor .i64 x1_2 1)
                · rw [if_pos c37] at H
                  have c37b0 : decide (0 ≤ (Go.bits .xor .i64 x1_2 1)) = true := decide_eq_true c37
                  clear c37
                  by_cases c38 : (Go.bits .xor .i64 x1_2 1) < (x11_2.length : Int)
                  · rw [if_pos c38] at H
                    have c38b0 : decide ((Go.bits .xor .i64 x1_2 1) < (x11_2.length : Int)) = true := decide_eq_true c38
                    clear c38
                    by_cases c39 : x140003_2.length < 8796093022208
                    · rw [if_pos c39] at H
                      have LMc39 := qk4 c39
                      clear c39
                      obtain ⟨y158, hy158⟩ : ∃ y_ : List ByteArray, y_ = (x140003_2 ++ [rdOf ByteArray.empty x11_2 (Go.bits .xor .i64 x1_2 1)]) := ⟨_, rfl⟩
                      replace H : ((impl_above.f k2 x11_2).bind fun t161 => (impl_signAt.l1 k2 (wrap64 (Int.tdiv x1_2 2)) t161 a1 x140001_1 x140002_1 y158)) = some (r1, r2, r3, r4) := by first | (rw [hy158]; with_reducible exact H) | (have H2_ := (Option.bind_some _ _).symm.trans H; rw [hy158]; with_reducible exact H2_) | (have H2_ := (Option.bind_some _ _).symm.trans H; with_reducible exact H2_) | with_reducible exact H | (rw [hy158]; exact H) | exact H
                      have Ny158 := qk4 hy158
                      clear hy158
                      replace H := Option.bind_eq_some_iff.mp H
                      obtain ⟨t161, A400, H⟩ := H
                      replace H : (impl_signAt.l1 k2 (wrap64 (Int.tdiv x1_2 2)) t161 a1 x140001_1 x140002_1 y158) = some (r1, r2, r3, r4) := H
                      have A40 := qk4 A400
                      clear A400
                      have H' := qk4 H
                      clear H
                      obtain ⟨Ao41, co41, eo41⟩ := Kd.R_slice HO_11.out
                      subst eo41
                      try go_wp2
                      have n0_ := qk4 (qf4 HO_11.out)
                      have n1_ := qk4 (qf4 HO_140001.out)
                      have n2_ := qk4 (qf4 HO_140002.out)
                      have n3_ := qk4 (qf4 HO_140003.out)
                      have n4_ := qk4 (qb4 BK138.out)
                      have n5_ := qk4 (qb4 BK139.out)
                      have n6_ := qk4 (qi4 HB.out)
                      clear HO_11
                      clear HO_140001
                      clear HO_140002
                      clear HO_140003
                      clear BK138
                      clear BK139
                      clear HB
                      have HO_11 := n0_
                      have HO_140001 := n1_
                      have HO_140002 := n2_
                      have HO_140003 := n3_
                      have BK138 := n4_
                      have BK139 := n5_
                      have HB := n6_
                      clear n0_ n1_ n2_ n3_ n4_ n5_ n6_
                      have p157 : 0 ≤ ((Go.bits .xor .i64 x1_2 1) : Int) := of_decide_eq_true (by first | (with_reducible assumption) | assumption)
                      have q157 : (Go.bits .xor .i64 x1_2 1) < (x11_2.length : Int) := of_decide_eq_true (by first | (with_reducible assumption) | assumption)
                      obtain ⟨ad157, e157, hx157_0⟩ := Kd.at_string (Kd.R_reads' HO_11.out).2.2 (Go.bits .xor .i64 x1_2 1) p157 q157
                      cases e157
                      replace p157 := eq_true p157
                      replace q157 := eq_true q157
                      refine start_ (n := 11) (S := fun w' => w'.cell? ⟨gb139, 0, none⟩ = some (.int .i64 a1) ∧ w'.cell? ⟨gb139, 1, none⟩ = some (u140001) ∧ w'.cell? ⟨gb139, 2, none⟩ = some (u140002) ∧ w'.cell? ⟨gb139, 3, none⟩ = some (u140003) ∧ w'.cell? (ad157.add ((Go.bits .xor .i64 x1_2 1)).toNat) = some (.string (rdOf ByteArray.empty x11_2 (Go.bits .xor .i64 x1_2 1)))) (ds := [8, 10]) #[false, false, false, false, false, false, false, false, false, false, false] (by kernel_rfl) rfl rfl ⟨(blk_cell BK139.out 0).trans rfl, (blk_cell BK139.out 1).trans rfl, (blk_cell BK139.out 2).trans rfl, (blk_cell BK139.out 3).trans rfl, hx157_0⟩ (fun hHeld => ?_); refine with_tabW impl_signAt.tab12 impl_signAt.bits12 (fun HT_ HW_ => ?_)
                      generalize wr.drew = w42 at HO_11 HO_140001 HO_140002 HO_140003 BK138 BK139 HB hx157_0 hHeld ⊢
                      refine pure_ (i := 0) (N := some 56) (v := ?_) (a' := ?_) #[true, false, false, false, false, false, false, false, false, false, false] rfl rfl (any_of HT_.out (by kernel_rfl)) (fun _ _ _ h => h) (Or.inl ⟨by rfl, ?_⟩) ?_ ?_
                      rotate_left
                      · intro w'
                        go_simp
                        with_reducible rfl
                      rotate_left
                      · simp only [Act.put, List.setIfInBounds_toArray, List.set_cons_zero, List.set_cons_succ, i64_w, i32_w]
                        rfl
                      refine pure_ (i := 2) (N := some 58) (v := ?_) (a' := ?_) #[true, false, true, false, false, false, false, false, false, false, false] rfl rfl (any_of HT_.out (by kernel_rfl)) (fun _ _ _ h => h) (Or.inl ⟨by rfl, ?_⟩) ?_ ?_
                      rotate_left
                      · intro w'
                        go_simp
                        with_reducible rfl
                      rotate_left
                      · simp only [Act.put, List.setIfInBounds_toArray, List.set_cons_zero, List.set_cons_succ, i64_w, i32_w]
                        rfl
                      refine pure_ (i := 3) (N := some 59) (v := ?_) (a' := ?_) #[true, false, true, true, false, false, false, false, false, false, false] rfl rfl (any_of HT_.out (by kernel_rfl)) (fun _ _ _ h => h) (Or.inl ⟨by rfl, ?_⟩) ?_ ?_
                      rotate_left
                      · intro w'
                        go_simp
                        with_reducible rfl
                      rotate_left
                      · simp only [Act.put, List.setIfInBounds_toArray, List.set_cons_zero, List.set_cons_succ, i64_w, i32_w]
                        rfl
                      refine pure_ (i := 4) (N := some 60) (v := ?_) (a' := ?_) #[true, false, true, true, true, false, false, false, false, false, false] rfl rfl (any_of HT_.out (by kernel_rfl)) (fun _ _ _ h => h) (Or.inl ⟨by rfl, ?_⟩) ?_ ?_
                      rotate_left
                      · intro w'
                        go_simp
                        with_reducible rfl
                      rotate_left
                      · simp only [Act.put, List.setIfInBounds_toArray, List.set_cons_zero, List.set_cons_succ, i64_w, i32_w]
                        rfl
                      refine pure_ (i := 5) (N := some 61) (v := ?_) (a' := ?_) #[true, false, true, true, true, true, false, false, false, false, false] rfl rfl (any_of HT_.out (by kernel_rfl)) (fun _ _ _ h => h) (Or.inl ⟨by rfl, ?_⟩) ?_ ?_
                      rotate_left
                      · intro w'
                        go_simp
                        with_reducible rfl
                      rotate_left
                      · simp only [Act.put, List.setIfInBounds_toArray, List.set_cons_zero, List.set_cons_succ, i64_w, i32_w]
                        rfl
                      refine take_ (i := 1) (N := some 57) (v := ?_) (a' := ?_) #[true, true, true, true, true, true, false, false, false, false, false] rfl rfl (take_ofW HT_.out HW_.out (by kernel_rfl)) (fun _ _ _ h => h) (Or.inl ⟨by rfl, ?_⟩) hHeld ?_ ?_
                      rotate_left
                      · rintro w' ⟨s0, s1, s2, s3, s4⟩
                        go_simp
                        with_reducible rfl
                      rotate_left
                      · simp only [Act.put, List.setIfInBounds_toArray, List.set_cons_zero, List.set_cons_succ, i64_w, i32_w]
                        rfl
                      refine take_ (i := 6) (N := some 62) (v := ?_) (a' := ?_) #[true, true, true, true, true, true, true, false, false, false, false] rfl rfl (take_ofW HT_.out HW_.out (by kernel_rfl)) (fun _ _ _ h => h) (Or.inl ⟨by rfl, ?_⟩) hHeld ?_ ?_
                      rotate_left
                      · rintro w' ⟨s0, s1, s2, s3, s4⟩
                        go_simp
                        with_reducible rfl
                      rotate_left
                      · simp only [Act.put, List.setIfInBounds_toArray, List.set_cons_zero, List.set_cons_succ, i64_w, i32_w]
                        rfl
                      refine one_ (i := 7) (N := some 63) #[true, true, true, true, true, true, true, true, false, false, false] rfl rfl (one_of HT_.out (by kernel_rfl)) (by decide) (fun K hK => ?_)
                      refine value_ (w1 := ?_) (v := ?_) (by rfl) rfl ?_ ?_
                      rotate_left 2
                      · go_simp
                        constructor
                        · rfl
                        · rfl
                      refine hK.out _ _ ⟨(blk_cell (qc4 BK139.out _) 0).trans rfl, (blk_cell (qc4 BK139.out _) 1).trans rfl, (blk_cell (qc4 BK139.out _) 2).trans rfl, (blk_cell (qc4 BK139.out _) 3).trans rfl, (World.cell?_alloc_lt _ _ _ (World.block_lt_of_cell? _ _ (hHeld.2.2.2.2))).trans (hHeld.2.2.2.2)⟩ (fun hHeld => ?_)
                      clear hK K
                      refine norm_ (a' := ?_) ?_ ?_
                      rotate_left
                      · show Act.put _ (some 63) _ = _
                        simp only [Act.put, List.setIfInBounds_toArray, List.set_cons_zero, List.set_cons_succ, i64_w, i32_w]
                        rfl
                      refine last_ (i := 8) (N := some 64) #[true, true, true, true, true, true, true, true, true, false, false] rfl rfl (one_of HT_.out (by kernel_rfl)) (by decide) (fun K hK => ?_)
                      refine Kd.R_append_step Kd.string (w0 := w) w.heap.size (by rfl) (.tmp 57) (.tmp 63) 31 9 (.string ⟨#[]⟩) 16 rfl Tryd.underlying31 info9 rfl (by decide) (by omega) u140003 x140003_2 (rdOf ByteArray.empty x11_2 (Go.bits .xor .i64 x1_2 1)) [.string (rdOf ByteArray.empty x11_2 (Go.bits .xor .i64 x1_2 1))] (fun k_ => some k_ ≠ (.slice (some ad157) x11_2.length co41 : Value).ownBlock ∧ some k_ ≠ (u140001 : Value).ownBlock ∧ some k_ ≠ (u140002 : Value).ownBlock) (fun _ => False) rfl rfl ?aP (fun _ hk => hk.elim) ?aF ?aO ?aB ?aS ?aL ?_
                      (case aP => exact rfl)
                      (case aB => exact (by repeat (first | (with_reducible first | exact HB.out | apply qg4 | apply qh4 | apply qi4 | refine qj4 ?_ GE138.out | refine qj4 ?_ GE139.out) | exact HB.out)))
                      (case aF => exact (fun k_ hk => ⟨Kd.fresh' (Kd.R_lt (by (with_reducible repeat (first | apply qd4 | apply qe4 | apply qf4)); exact HO_11.out)) k_ hk, Kd.fresh' (Kd.R_lt (by (with_reducible repeat (first | apply qd4 | apply qe4 | apply qf4)); exact HO_140001.out)) k_ hk, Kd.fresh' (Kd.R_lt (by (with_reducible repeat (first | apply qd4 | apply qe4 | apply qf4)); exact HO_140002.out)) k_ hk⟩))
                      (case aO => exact (by (with_reducible repeat (first | apply qd4 | apply qe4 | apply qf4)); exact HO_140003.out))
                      (case aS => exact (below_size (by repeat (first | (with_reducible first | exact HB.out | apply qg4 | apply qh4 | apply qi4 | refine qj4 ?_ GE138.out | refine qj4 ?_ GE139.out) | exact HB.out))))
                      (case aL => have := LMc39.out; omega)
                      intro v159 w43 ho hb hg hat
                      rw [← Ny158.out] at ho
                      have n0_ := qk4 (Kd.R_after (ok := (fun k_ => some k_ ≠ (u140001 : Value).ownBlock ∧ some k_ ≠ (u140002 : Value).ownBlock)) (by (with_reducible repeat (first | apply qd4 | apply qe4 | apply qf4)); exact ql4 HO_11.out (fun _ hk => ⟨⟨hk.1, hk.2.1⟩, hk.2.2⟩)) hg hat)
                      have n1_ := qk4 (Kd.R_after (ok := (fun k_ => some k_ ≠ (.slice (some ad157) x11_2.length co41 : Value).ownBlock ∧ some k_ ≠ (u140002 : Value).ownBlock)) (by (with_reducible repeat (first | apply qd4 | apply qe4 | apply qf4)); exact ql4 HO_140001.out (fun _ hk => ⟨⟨hk.1, hk.2.1⟩, hk.2.2⟩)) hg hat)
                      have n2_ := qk4 (Kd.R_after (ok := (fun k_ => some k_ ≠ (.slice (some ad157) x11_2.length co41 : Value).ownBlock ∧ some k_ ≠ (u140001 : Value).ownBlock)) (by (with_reducible repeat (first | apply qd4 | apply qe4 | apply qf4)); exact ql4 HO_140002.out (fun _ hk => ⟨⟨hk.1, hk.2.1⟩, hk.2.2⟩)) hg hat)
                      have n3_ := qk4 (blk_grown (g := gb138) (o := .cells #[.int .i64 0, .slice none 0 0, .slice none 0 0, .slice none 0 0] 33 (0, 0)) (by (with_reducible repeat (first | apply qa4 | apply qb4 | apply qc4)); exact BK138.out) hg (Kd.R_ne HO_140003.out BK138.out (by decide)))
                      have n4_ := qk4 (blk_grown (g := gb139) (o := .cells #[.int .i64 a1, u140001, u140002, u140003] 33 (0, 0)) (by (with_reducible repeat (first | apply qa4 | apply qb4 | apply qc4)); exact BK139.out) hg (Kd.R_ne HO_140003.out BK139.out (by decide)))
                      have n5_ := qk4 (hb)
                      have n6_ := qk4 (ho)
                      clear HO_11
                      clear HO_140001
                      clear HO_140002
                      clear BK138
                      clear BK139
                      clear HB
                      clear HO_140003
                      have HO_11 := n0_
                      have HO_140001 := n1_
                      have HO_140002 := n2_
                      have BK138 := n3_
                      have BK139 := n4_
                      have HB := n5_
                      have HO160 := n6_
                      clear n0_ n1_ n2_ n3_ n4_ n5_ n6_
                      clear ho hb hg hat
                      obtain ⟨Ao44, co44, eo44⟩ := Kd.R_slice HO160.out
                      (first | subst eo44 | (injection eo44 with f1_ f2_ f3_; have f4_ := f1_.symm; have f5_ := f3_.symm; clear f1_ f2_ f3_; subst f4_; subst f5_))
                      refine hK.out _ _ ?_
                      clear hK K
                      refine norm_ (a' := ?_) ?_ ?_
                      rotate_left
                      · show Act.put _ (some 64) _ = _
                        simp only [Act.put, List.setIfInBounds_toArray, List.set_cons_zero, List.set_cons_succ, i64_w, i32_w]
                        rfl
                      refine pure_ (i := 9) (N := some 65) (v := ?_) (a' := ?_) #[true, true, true, true, true, true, true, true, true, true, false] rfl rfl (any_of HT_.out (by kernel_rfl)) (fun _ _ _ h => h) (Or.inl ⟨by rfl, ?_⟩) ?_ ?_
                      rotate_left
                      · intro w'
                        go_simp
                        with_reducible rfl
                      rotate_left
                      · simp only [Act.put, List.setIfInBounds_toArray, List.set_cons_zero, List.set_cons_succ, i64_w, i32_w]
                        rfl
                      refine last_ (i := 10) (N := none) #[true, true, true, true, true, true, true, true, true, true, true] rfl rfl (one_of HT_.out (by kernel_rfl)) (by decide) (fun K hK => ?_)
                      have hs45 : w43.cell? ⟨gb139, 3, none⟩ = some (u140003) := (blk_cell BK139.out 3).trans rfl
                      have hfs45 := blk_frozen BK139.out 3
                      have hns45_0 := NB138_139.out
                      have hms45_0 := NB139_138.out
                      refine skip_ (w1 := ?_) (by rfl) rfl ?_ ?_
                      rotate_left
                      · go_simp
                        rfl
                      refine hK.out _ _ ?_
                      clear hK K
                      refine done_ (done_of HT_.out (by kernel_rfl)) ?_
                      try go_wp2_with (first | ((with_reducible refine gate_callee (f := 107) rfl ?_); refine goesL_ (some 55) rfl rfl Tryd.func107 (by kernel_rfl) rfl #[.slice (some ad157) x11_2.length co41] rfl (by (try simp only [List.map_toArray, List.map_cons, List.map_nil]); first | done | rfl | (simp only [List.length_drop, List.length_take]; rfl)) ?_; (with_reducible refine (impl_above.calls k2 _ _ x11_2 t161 _ ?side1 ?side2 ?side3 A40.out).mono ?_); (case side1 => refine (Kd.R_reads' (e := 9) (base := w.heap.size) (ok := fun k_ => ((some k_ ≠ (u140001 : Value).ownBlock ∧ some k_ ≠ (u140002 : Value).ownBlock) ∧ some k_ ≠ (.slice Ao44 y158.length co44 : Value).ownBlock)) (n := x11_2.length) (c := co41) ?_).2.2; exact (by (with_reducible repeat (first | apply qd4 | apply qe4 | apply qf4)); exact (ql4 (Kd.R_far (p := ⟨gb139, 3, none⟩) (Kd.R_types HO_11.out BK139.out (by decide)) (fun _ hk => hk.2) (.slice Ao44 y158.length co44)) (fun _ h_ => h_.1)))); (case side2 => exact (Kd.R_reads' HO_11.out).2.1); (case side3 => exact Go.Proofs.YtmkaknegjahjaaaDoor.Sha.glob_below hG_ (by repeat (first | (with_reducible first | exact HB.out | apply qg4 | apply qh4 | apply qi4 | refine qj4 ?_ GE138.out | refine qj4 ?_ GE139.out) | exact HB.out))); rintro e w46 ⟨v162, rfl, ho0, hb⟩; refine ⟨_, rfl, ?_⟩; have n0_ := qk4 (Kd.R_elder' (by (with_reducible repeat (first | apply qd4 | apply qe4 | apply qf4)); exact (ql4 (Kd.R_far (p := ⟨gb139, 3, none⟩) (Kd.R_types HO_11.out BK139.out (by decide)) (fun _ hk => hk.2) (.slice Ao44 y158.length co44)) (fun _ h_ => h_.1))) (Kd.R_base ho0) hb); have n1_ := qk4 (Kd.R_elder' (by (with_reducible repeat (first | apply qd4 | apply qe4 | apply qf4)); exact (ql4 (Kd.R_far (p := ⟨gb139, 3, none⟩) (Kd.R_types HO_140001.out BK139.out (by decide)) (fun _ hk => hk.2) (.slice Ao44 y158.length co44)) (fun _ h_ => h_.1))) (Kd.R_base ho0) hb); have n2_ := qk4 (Kd.R_elder' (by (with_reducible repeat (first | apply qd4 | apply qe4 | apply qf4)); exact (ql4 (Kd.R_far (p := ⟨gb139, 3, none⟩) (Kd.R_types HO_140002.out BK139.out (by decide)) (fun _ hk => hk.2) (.slice Ao44 y158.length co44)) (fun _ h_ => h_.1))) (Kd.R_base ho0) hb); have n3_ := qk4 (Kd.R_elder' (by (with_reducible repeat (first | apply qd4 | apply qe4 | apply qf4)); exact (ql4 (Kd.R_far (p := ⟨gb139, 3, none⟩) (Kd.R_types HO160.out BK139.out (by decide)) (fun _ hk => hk.2) (.slice Ao44 y158.length co44)) (fun _ h_ => h_.1))) (Kd.R_base ho0) hb); have n4_ := qk4 (Kd.R_lower (Kd.R_new' (Kd.R_new' (Kd.R_new' (Kd.R_new' ho0 (Kd.R_lt (by (with_reducible repeat (first | apply qd4 | apply qe4 | apply qf4)); exact (ql4 (Kd.R_far (p := ⟨gb139, 3, none⟩) (Kd.R_types HO_11.out BK139.out (by decide)) (fun _ hk => hk.2) (.slice Ao44 y158.length co44)) (fun _ h_ => h_.1))))) (Kd.R_lt (by (with_reducible repeat (first | apply qd4 | apply qe4 | apply qf4)); exact (ql4 (Kd.R_far (p := ⟨gb139, 3, none⟩) (Kd.R_types HO_140001.out BK139.out (by decide)) (fun _ hk => hk.2) (.slice Ao44 y158.length co44)) (fun _ h_ => h_.1))))) (Kd.R_lt (by (with_reducible repeat (first | apply qd4 | apply qe4 | apply qf4)); exact (ql4 (Kd.R_far (p := ⟨gb139, 3, none⟩) (Kd.R_types HO_140002.out BK139.out (by decide)) (fun _ hk => hk.2) (.slice Ao44 y158.length co44)) (fun _ h_ => h_.1))))) (Kd.R_lt (by (with_reducible repeat (first | apply qd4 | apply qe4 | apply qf4)); exact (ql4 (Kd.R_far (p := ⟨gb139, 3, none⟩) (Kd.R_types HO160.out BK139.out (by decide)) (fun _ hk => hk.2) (.slice Ao44 y158.length co44)) (fun _ h_ => h_.1))))) (below_size (by repeat (first | (with_reducible first | exact HB.out | apply qg4 | apply qh4 | apply qi4 | refine qj4 ?_ GE138.out | refine qj4 ?_ GE139.out) | exact HB.out)))); have n5_ := qk4 (blk_below (g := gb138) (o := .cells #[.int .i64 0, .slice none 0 0, .slice none 0 0, .slice none 0 0] 33 (0, 0)) (by (with_reducible repeat (first | apply qa4 | apply qb4 | apply qc4)); refine blk_far ?_ NB138_139.out _; (with_reducible repeat (first | apply qa4 | apply qb4 | apply qc4)); exact BK138.out) hb); have n6_ := qk4 (blk_below (g := gb139) (o := .cells #[.int .i64 a1, u140001, u140002, .slice Ao44 y158.length co44] 33 (0, 0)) (by (with_reducible repeat (first | apply qa4 | apply qb4 | apply qc4)); refine blk_put (cs := #[.int .i64 a1, u140001, u140002, u140003]) ?_ 3 _ rfl; (with_reducible repeat (first | apply qa4 | apply qb4 | apply qc4)); exact BK139.out) hb); have n7_ := qk4 (below_step (by repeat (first | (with_reducible first | exact HB.out | apply qg4 | apply qh4 | apply qi4 | refine qj4 ?_ GE138.out | refine qj4 ?_ GE139.out) | exact HB.out)) hb); clear HO_11; clear HO_140001; clear HO_140002; clear HO160; clear BK138; clear BK139; clear HB; have HO_11 := n0_; have HO_140001 := n1_; have HO_140002 := n2_; have HO160 := n3_; have HO163 := n4_; have BK138 := n5_; have BK139 := n6_; have HB := n7_; clear n0_ n1_ n2_ n3_ n4_ n5_ n6_ n7_; (try clear hb); (try clear hb2); (try clear hk); (try clear hi); (try clear ho0)))
                      go_roundg k2
                      case measure => have := HK1.out; have := HK2.out; omega
                      case rel => exact ⟨(wrap64 (Int.tdiv x1_2 2)), (t161), (y158), (.slice Ao44 y158.length co44), (by first | rfl | (simp; done) | (simp [*]; done)), H', ⟨by have := HK1.out; have := HK2.out; omega⟩, ⟨by (with_reducible repeat (first | apply qd4 | apply qe4 | apply qf4)); exact ql4 HO163.out (fun _ hk => ⟨hk.1.1.2, ⟨hk.1.2, hk.2⟩⟩)⟩, ⟨by (with_reducible repeat (first | apply qd4 | apply qe4 | apply qf4)); exact ql4 HO_140001.out (fun _ hk => ⟨hk.2, ⟨hk.1.1.2, hk.1.2⟩⟩)⟩, ⟨by (with_reducible repeat (first | apply qd4 | apply qe4 | apply qf4)); exact ql4 HO_140002.out (fun _ hk => ⟨hk.2, ⟨hk.1.1.2, hk.1.2⟩⟩)⟩, ⟨by (with_reducible repeat (first | apply qd4 | apply qe4 | apply qf4)); exact ql4 HO160.out (fun _ hk => ⟨hk.2, ⟨hk.1.2.1, hk.1.2.2⟩⟩)⟩, ⟨by (with_reducible repeat (first | apply qa4 | apply qb4 | apply qc4)); exact BK138.out⟩, ⟨by (with_reducible repeat (first | apply qa4 | apply qb4 | apply qc4)); exact BK139.out⟩, ⟨by repeat (first | (with_reducible first | exact HB.out | apply qg4 | apply qh4 | apply qi4 | refine qj4 ?_ GE138.out | refine qj4 ?_ GE139.out) | exact HB.out)⟩⟩
                    · rw [if_neg c39] at H
                      exact absurd H (by simp)
                  · rw [if_neg c38] at H
                    exact absurd H (by simp)
                · rw [if_neg c37] at H
                  exact absurd H (by simp)
              · rw [if_neg c36] at H
                have c36b0 : decide (1 < (x11_2.length : Int)) = false := decide_eq_false c36
                have c36b1 : decide (1 < x11_2.length) = false := decide_eq_false (by omega)
                clear c36
                simp only [Option.some.injEq, Prod.mk.injEq] at H
                obtain ⟨rfl, rfl, rfl, rfl⟩ := H
                obtain ⟨Ao47, co47, eo47⟩ := Kd.R_slice HO_11.out
                subst eo47
                have hnb48 := NB139_138.out
                have hnc48 := NB138_139.out
                have hcz49_0 : wr.cell? ⟨gb139, 0, none⟩ = some (.int .i64 a1) := (blk_cell BK139.out 0).trans rfl
                have hcz49_1 : wr.cell? ⟨gb139, 1, none⟩ = some (u140001) := (blk_cell BK139.out 1).trans rfl
                have hcz49_2 : wr.cell? ⟨gb139, 2, none⟩ = some (u140002) := (blk_cell BK139.out 2).trans rfl
                have hcz49_3 : wr.cell? ⟨gb139, 3, none⟩ = some (u140003) := (blk_cell BK139.out 3).trans rfl
                have hfz49_0 := blk_frozen BK139.out 0
                have hfz49_1 := blk_frozen BK139.out 1
                have hfz49_2 := blk_frozen BK139.out 2
                have hfz49_3 := blk_frozen BK139.out 3
                have hcz50_0 : wr.cell? ⟨gb138, 0, none⟩ = some (.int .i64 0) := (blk_cell BK138.out 0).trans rfl
                have hcz50_1 : wr.cell? ⟨gb138, 1, none⟩ = some (.slice none 0 0) := (blk_cell BK138.out 1).trans rfl
                have hcz50_2 : wr.cell? ⟨gb138, 2, none⟩ = some (.slice none 0 0) := (blk_cell BK138.out 2).trans rfl
                have hcz50_3 : wr.cell? ⟨gb138, 3, none⟩ = some (.slice none 0 0) := (blk_cell BK138.out 3).trans rfl
                have hfz50_0 := blk_frozen BK138.out 0
                have hfz50_1 := blk_frozen BK138.out 1
                have hfz50_2 := blk_frozen BK138.out 2
                have hfz50_3 := blk_frozen BK138.out 3
                obtain ⟨Ao51, co51, eo51⟩ := Kd.R_slice HO_140001.out
                subst eo51
                obtain ⟨Ao52, co52, eo52⟩ := Kd.R_slice HO_140002.out
                subst eo52
                obtain ⟨Ao53, co53, eo53⟩ := Kd.R_slice HO_140003.out
                subst eo53
                go_wp2
                refine bodyPost_ret (results_cell_row rfl _ _ gb138 33 #[.int .i64 a1, .slice Ao51 x140001_1.length co51, .slice Ao52 x140002_1.length co52, .slice Ao53 x140003_2.length co53] (0, 0) _ rfl (by (with_reducible repeat (first | apply qa4 | apply qb4 | apply qc4)); refine blk_put (cs := #[.int .i64 a1, .slice Ao51 x140001_1.length co51, .slice Ao52 x140002_1.length co52, .slice none 0 0]) ?_ 3 _ rfl; (with_reducible repeat (first | apply qa4 | apply qb4 | apply qc4)); refine blk_put (cs := #[.int .i64 a1, .slice Ao51 x140001_1.length co51, .slice none 0 0, .slice none 0 0]) ?_ 2 _ rfl; (with_reducible repeat (first | apply qa4 | apply qb4 | apply qc4)); refine blk_put (cs := #[.int .i64 a1, .slice none 0 0, .slice none 0 0, .slice none 0 0]) ?_ 1 _ rfl; (with_reducible repeat (first | apply qa4 | apply qb4 | apply qc4)); refine blk_put (cs := #[.int .i64 0, .slice none 0 0, .slice none 0 0, .slice none 0 0]) ?_ 0 _ rfl; (with_reducible repeat (first | apply qa4 | apply qb4 | apply qc4)); exact BK138.out) Tryd.underlying33 rfl (by kernel_rfl)) rfl ?_
                exact ⟨_, _, _, by first | rfl | (simp [errW_none, errW_some] <;> rfl) | (simp [*, errW_none, errW_some] <;> rfl), by (with_reducible repeat (first | apply qd4 | apply qe4 | apply qf4)); exact ql4 (Kd.R_far (p := ⟨gb138, 3, none⟩) (Kd.R_far (p := ⟨gb138, 2, none⟩) (Kd.R_far (p := ⟨gb138, 1, none⟩) (Kd.R_far (p := ⟨gb138, 0, none⟩) (Kd.R_types HO_140001.out BK138.out (by decide)) (fun _ hk => hk.2) (.int .i64 a1)) (fun _ hk => hk.2) (.slice Ao51 x140001_1.length co51)) (fun _ hk => hk.2) (.slice Ao52 x140002_1.length co52)) (fun _ hk => hk.2) (.slice Ao53 x140003_2.length co53)) (fun _ hk => ⟨hk.1.2.1, hk.1.2.2⟩), by (with_reducible repeat (first | apply qd4 | apply qe4 | apply qf4)); exact ql4 (Kd.R_far (p := ⟨gb138, 3, none⟩) (Kd.R_far (p := ⟨gb138, 2, none⟩) (Kd.R_far (p := ⟨gb138, 1, none⟩) (Kd.R_far (p := ⟨gb138, 0, none⟩) (Kd.R_types HO_140002.out BK138.out (by decide)) (fun _ hk => hk.2) (.int .i64 a1)) (fun _ hk => hk.2) (.slice Ao51 x140001_1.length co51)) (fun _ hk => hk.2) (.slice Ao52 x140002_1.length co52)) (fun _ hk => hk.2) (.slice Ao53 x140003_2.length co53)) (fun _ hk => ⟨hk.1.2.1, hk.1.2.2⟩), by (with_reducible repeat (first | apply qd4 | apply qe4 | apply qf4)); exact ql4 (Kd.R_far (p := ⟨gb138, 3, none⟩) (Kd.R_far (p := ⟨gb138, 2, none⟩) (Kd.R_far (p := ⟨gb138, 1, none⟩) (Kd.R_far (p := ⟨gb138, 0, none⟩) (Kd.R_types HO_140003.out BK138.out (by decide)) (fun _ hk => hk.2) (.int .i64 a1)) (fun _ hk => hk.2) (.slice Ao51 x140001_1.length co51)) (fun _ hk => hk.2) (.slice Ao52 x140002_1.length co52)) (fun _ hk => hk.2) (.slice Ao53 x140003_2.length co53)) (fun _ hk => ⟨hk.1.2.1, hk.1.2.2⟩), by repeat (first | (with_reducible first | exact HB.out | apply qg4 | apply qh4 | apply qi4 | refine qj4 ?_ GE138.out | refine qj4 ?_ GE139.out) | exact HB.out)⟩
  · rw [if_neg c5] at H
    exact absurd H (by simp)

end Go.Proofs.YtmkaknegjahjaaaDoor.PFnChain
