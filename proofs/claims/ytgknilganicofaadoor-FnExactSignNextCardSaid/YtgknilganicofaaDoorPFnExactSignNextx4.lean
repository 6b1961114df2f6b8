-- laid by this session's program myprint.py over the kit's printer
-- aliased
import Derived.Test.YtgknilganicofaaDoorPFnExactSignNextx0
import Derived.Test.YtgknilganicofaaDoorPFnExactSignNextx2
import Derived.Test.YtgknilganicofaaDoorPFnExactSignNextx3
namespace Go.Proofs.YtgknilganicofaaDoor.PFnExactSignNext
open Go.RowKit Go.Proofs.YtgknilganicofaaDoorV.PrintWords Go.Proofs.YtgknilganicofaaDoorV.PrintLast Go.Proofs.YtgknilganicofaaDoorV.PrintMore
attribute [local go_sem] max2_int min2_int max_two min_two max_three min_three max_four min_four u8_wm u32_wm   -- for this text's walks alone
set_option linter.unusedVariables false
set_option linter.unusedSimpArgs false

/-! ### spec_l03Sign: function 89 -/
theorem qa4 : type_of% @blk_drewN := @blk_drewN
theorem qb4 : type_of% @blk_drew := @blk_drew
theorem qc4 : type_of% @blk_alloc := @blk_alloc
theorem qd4 : type_of% @Kd.R_alloc := @Kd.R_alloc
theorem qe4 : type_of% @Kd.R_drewN := @Kd.R_drewN
theorem qf4 : type_of% @Kd.R_drew := @Kd.R_drew
theorem qg4 : type_of% @below_alloc := @below_alloc
theorem qh4 : type_of% @pw_below_drewN := @pw_below_drewN
theorem qi4 : type_of% @below_drew1 := @below_drew1
theorem qj4 : type_of% @below_set := @below_set
theorem qk4 : type_of% @Aside0.mk := @Aside0.mk
theorem ql4 : type_of% @Kd.R_far := @Kd.R_far
theorem qm4 : type_of% @Kd.R_mono := @Kd.R_mono
mutual
def spec_l03Sign.l0 : Nat → ByteArray → Int → ByteArray → Int → Int → List ByteArray → List ByteArray → List ByteArray → Option (Int × List ByteArray × List ByteArray × List ByteArray)
  | 0, _, _, _, _, _, _, _, _ => none
  | k + 1, x0, x1, x7, x9, x188000, x188001, x188002, x188003 => if x9 < 32 then (if 0 ≤ x9 then (if x9 < (x7.size : Int) then ((spec_l03Secret.f x0 x1 x9 (((bt x7 x9) - 48) % 256)).bind fun t188 => (if x188001.length < 8796093022208 then ((spec_l03Secret.f x0 x1 x9 (wrap64 (1 - (((bt x7 x9) - 48) % 256)))).bind fun t192 => (if t192.size ≤ 9223372036854775807 then ((spec_l01Hash.f (bytesOf t192)).bind fun t196 => (if x188002.length < 8796093022208 then (spec_l03Sign.l0 k x0 x1 x7 (wrap64 (x9 + 1)) x188000 (x188001 ++ [t188]) (x188002 ++ [t196]) x188003) else (none))) else (none))) else (none))) else (none)) else (none)) else ((spec_l03Keys.f k x0).bind fun t200 => (spec_l03Sign.l1 k x1 t200 x188000 x188001 x188002 x188003))
def spec_l03Sign.l1 : Nat → Int → List ByteArray → Int → List ByteArray → List ByteArray → List ByteArray → Option (Int × List ByteArray × List ByteArray × List ByteArray)
  | 0, _, _, _, _, _, _ => none
  | k + 1, x11, x12, x188000, x188001, x188002, x188003 => if (x12.length : Int) > 1 then (if 0 ≤ (Go.bits .xor .i64 x11 1) then (if (Go.bits .xor .i64 x11 1) < (x12.length : Int) then (if x188003.length < 8796093022208 then ((spec_l03Level.f k x12).bind fun t207 => (spec_l03Sign.l1 k (wrap64 (Int.tdiv x11 2)) t207 x188000 x188001 x188002 (x188003 ++ [rdOf ByteArray.empty x12 (Go.bits .xor .i64 x11 1)]))) else (none)) else (none)) else (none)) else (some (x188000, x188001, x188002, x188003))
end
def spec_l03Sign.f (k : Nat) (a0 : ByteArray) (a1 : Int) (a2 : ByteArray) : Option (Int × List ByteArray × List ByteArray × List ByteArray) := (spec_l03Bits.f k a2).bind fun t177 => (spec_l03Sign.l0 k a0 a1 t177 0 a1 (([] : List ByteArray)) (([] : List ByteArray)) (([] : List ByteArray)))
theorem spec_l03Sign.mono_l : ∀ k, (∀ y0 y1 y2 y3 y4 y5 y6 y7, LeO (spec_l03Sign.l0 k y0 y1 y2 y3 y4 y5 y6 y7) (spec_l03Sign.l0 (k + 1) y0 y1 y2 y3 y4 y5 y6 y7)) ∧ (∀ y0 y1 y2 y3 y4 y5, LeO (spec_l03Sign.l1 k y0 y1 y2 y3 y4 y5) (spec_l03Sign.l1 (k + 1) y0 y1 y2 y3 y4 y5))
  | 0 => ⟨fun _ _ _ _ _ _ _ _ r h => by simp [spec_l03Sign.l0] at h, fun _ _ _ _ _ _ r h => by simp [spec_l03Sign.l1] at h⟩
  | k + 1 => by
    obtain ⟨ih0, ih1⟩ := spec_l03Sign.mono_l k
    refine ⟨?_, ?_⟩
    · intro y0 y1 y2 y3 y4 y5 y6 y7
      unfold spec_l03Sign.l0
      repeat' first
      | (with_reducible exact ih0 _ _ _ _ _ _ _ _)
      | (with_reducible exact ih1 _ _ _ _ _ _)
      | (with_reducible exact spec_l03Bits.mono _ _)
      | (with_reducible exact spec_l03Keys.mono _ _)
      | (with_reducible exact spec_l03Level.mono _ _)
      | (with_reducible exact LeO.refl _)
      | (with_reducible exact LeO.none _)
      | (with_reducible refine LeO.ite ?_ ?_)
      | (with_reducible refine LeO.bind ?_ (fun _ => ?_))
      | exact ih0 _ _ _ _ _ _ _ _
      | exact ih1 _ _ _ _ _ _
      | exact spec_l03Bits.mono _ _
      | exact spec_l03Keys.mono _ _
      | exact spec_l03Level.mono _ _
      | exact LeO.none _
      | refine LeO.ite ?_ ?_
      | refine LeO.bind ?_ (fun _ => ?_)
    · intro y0 y1 y2 y3 y4 y5
      unfold spec_l03Sign.l1
      repeat' first
      | (with_reducible exact ih0 _ _ _ _ _ _ _ _)
      | (with_reducible exact ih1 _ _ _ _ _ _)
      | (with_reducible exact spec_l03Bits.mono _ _)
      | (with_reducible exact spec_l03Keys.mono _ _)
      | (with_reducible exact spec_l03Level.mono _ _)
      | (with_reducible exact LeO.refl _)
      | (with_reducible exact LeO.none _)
      | (with_reducible refine LeO.ite ?_ ?_)
      | (with_reducible refine LeO.bind ?_ (fun _ => ?_))
      | exact ih0 _ _ _ _ _ _ _ _
      | exact ih1 _ _ _ _ _ _
      | exact spec_l03Bits.mono _ _
      | exact spec_l03Keys.mono _ _
      | exact spec_l03Level.mono _ _
      | exact LeO.none _
      | refine LeO.ite ?_ ?_
      | refine LeO.bind ?_ (fun _ => ?_)
theorem spec_l03Sign.mono : ∀ a0 a1 a2 k, LeO (spec_l03Sign.f k a0 a1 a2) (spec_l03Sign.f (k + 1) a0 a1 a2) := by
  intro a0 a1 a2 k
  obtain ⟨ih0, ih1⟩ := spec_l03Sign.mono_l k
  unfold spec_l03Sign.f
  repeat' first
      | (with_reducible exact ih0 _ _ _ _ _ _ _ _)
      | (with_reducible exact ih1 _ _ _ _ _ _)
      | (with_reducible exact spec_l03Bits.mono _ _)
      | (with_reducible exact spec_l03Keys.mono _ _)
      | (with_reducible exact spec_l03Level.mono _ _)
      | (with_reducible exact LeO.refl _)
      | (with_reducible exact LeO.none _)
      | (with_reducible refine LeO.ite ?_ ?_)
      | (with_reducible refine LeO.bind ?_ (fun _ => ?_))
      | exact ih0 _ _ _ _ _ _ _ _
      | exact ih1 _ _ _ _ _ _
      | exact spec_l03Bits.mono _ _
      | exact spec_l03Keys.mono _ _
      | exact spec_l03Level.mono _ _
      | exact LeO.none _
      | refine LeO.ite ?_ ?_
      | refine LeO.bind ?_ (fun _ => ?_)
def spec_l03Sign.T7 : Bool × List (List Nat × List Nat) := (true, [([], []), ([0], [0]), ([], []), ([], []), ([], []), ([], []), ([2, 3, 4, 5], [2, 3, 4, 5]), ([6], [6]), ([1, 7, 6], [1, 7]), ([0, 1, 2, 3, 4, 5, 6, 7, 8], []), ([9, 8, 8, 0, 1, 2, 3, 4, 5, 6, 7, 8], [8, 9])])
def spec_l03Sign.B7 : List Nat := [0, 1, 0, 0, 0, 0, 60, 124, 255, 511, 1023]
theorem spec_l03Sign.tab7 : rtab .any (opsOf Tryd.f89 7) = spec_l03Sign.T7 := by kernel_rfl
theorem spec_l03Sign.bits7 : waitsOk spec_l03Sign.T7.2 spec_l03Sign.B7 = true := by kernel_rfl
def spec_l03Sign.T8 : Bool × List (List Nat × List Nat) := (true, [([], []), ([0], [0]), ([], []), ([], []), ([], []), ([], []), ([5], [5]), ([2, 3, 4, 6], [2, 3, 4, 6]), ([7], [7]), ([8, 7], [8]), ([9], [9]), ([1, 10, 9], [1, 10]), ([0, 1, 2, 3, 4, 5, 6, 7, 8, 9, 10, 11], []), ([12, 11, 11, 0, 1, 2, 3, 4, 5, 6, 7, 8, 9, 10, 11], [11, 12])])
def spec_l03Sign.B8 : List Nat := [0, 1, 0, 0, 0, 0, 32, 124, 252, 508, 1020, 2047, 4095, 8191]
theorem spec_l03Sign.tab8 : rtab .any (opsOf Tryd.f89 8) = spec_l03Sign.T8 := by kernel_rfl
theorem spec_l03Sign.bits8 : waitsOk spec_l03Sign.T8.2 spec_l03Sign.B8 = true := by kernel_rfl
def spec_l03Sign.T13 : Bool × List (List Nat × List Nat) := (true, [([], []), ([0], [0]), ([], []), ([], []), ([3], [3]), ([2, 4], [2, 4]), ([5], [5]), ([6], [6]), ([1, 7], [1, 7]), ([0, 1, 2, 3, 4, 5, 6, 7, 8], []), ([9, 8, 8, 0, 1, 2, 3, 4, 5, 6, 7, 8], [8, 9])])
def spec_l03Sign.B13 : List Nat := [0, 1, 0, 0, 8, 28, 60, 124, 255, 511, 1023]
theorem spec_l03Sign.tab13 : rtab .any (opsOf Tryd.f89 13) = spec_l03Sign.T13 := by kernel_rfl
theorem spec_l03Sign.bits13 : waitsOk spec_l03Sign.T13.2 spec_l03Sign.B13 = true := by kernel_rfl
set_option maxHeartbeats 8000000 in
set_option maxRecDepth 100000 in
theorem spec_l03Sign.calls (k : Nat) (a0 : ByteArray) (a1 : Int) (a2 : ByteArray) (r1 : Int) (r2 : List ByteArray) (r3 : List ByteArray) (r4 : List ByteArray) (w : World) (h : spec_l03Sign.f k a0 a1 a2 = some (r1, r2, r3, r4)) :
    Calls Tryd.prog 89 #[.string a0, .int .i64 a1, .string a2] w fun e w' => ∃ v1_ v2_ v3_ : Value, e = .returned (.agg #[.int .i64 r1, v1_, v2_, v3_]) ∧ Kd.R Kd.string 9 w' w.heap.size (fun k_ => some k_ ≠ (v2_ : Value).ownBlock ∧ some k_ ≠ (v3_ : Value).ownBlock) v1_ r2 ∧ Kd.R Kd.string 9 w' w.heap.size (fun k_ => some k_ ≠ (v1_ : Value).ownBlock ∧ some k_ ≠ (v3_ : Value).ownBlock) v2_ r3 ∧ Kd.R Kd.string 9 w' w.heap.size (fun k_ => some k_ ≠ (v1_ : Value).ownBlock ∧ some k_ ≠ (v2_ : Value).ownBlock) v3_ r4 ∧ Below w.heap.size w w' := by
  have hu51 := Tryd.underlying51
  have HB := qk4 (Below.refl w.heap.size w)
  have H : ((spec_l03Bits.f k a2).bind fun t177 => (spec_l03Sign.l0 k a0 a1 t177 0 a1 (([] : List ByteArray)) (([] : List ByteArray)) (([] : List ByteArray)))) = some (r1, r2, r3, r4) := h
  clear h
  replace H := Option.bind_eq_some_iff.mp H
  obtain ⟨t177, A40, H⟩ := H
  replace H : (spec_l03Sign.l0 k a0 a1 t177 0 a1 (([] : List ByteArray)) (([] : List ByteArray)) (([] : List ByteArray))) = some (r1, r2, r3, r4) := H
  have A4 := qk4 A40
  clear A40
  obtain ⟨y178, hy178⟩ : ∃ y_ : List ByteArray, y_ = (([] : List ByteArray)) := ⟨_, rfl⟩
  replace H : (spec_l03Sign.l0 k a0 a1 t177 0 a1 y178 (([] : List ByteArray)) (([] : List ByteArray))) = some (r1, r2, r3, r4) := by first | (rw [hy178]; with_reducible exact H) | (have H2_ := (Option.bind_some _ _).symm.trans H; rw [hy178]; with_reducible exact H2_) | (have H2_ := (Option.bind_some _ _).symm.trans H; with_reducible exact H2_) | with_reducible exact H | (rw [hy178]; exact H) | exact H
  have Ny178 := qk4 hy178
  clear hy178
  obtain ⟨y181, hy181⟩ : ∃ y_ : List ByteArray, y_ = (([] : List ByteArray)) := ⟨_, rfl⟩
  replace H : (spec_l03Sign.l0 k a0 a1 t177 0 a1 y178 y181 (([] : List ByteArray))) = some (r1, r2, r3, r4) := by first | (rw [hy181]; with_reducible exact H) | (have H2_ := (Option.bind_some _ _).symm.trans H; rw [hy181]; with_reducible exact H2_) | (have H2_ := (Option.bind_some _ _).symm.trans H; with_reducible exact H2_) | with_reducible exact H | (rw [hy181]; exact H) | exact H
  have Ny181 := qk4 hy181
  clear hy181
  obtain ⟨y184, hy184⟩ : ∃ y_ : List ByteArray, y_ = (([] : List ByteArray)) := ⟨_, rfl⟩
  replace H : (spec_l03Sign.l0 k a0 a1 t177 0 a1 y178 y181 y184) = some (r1, r2, r3, r4) := by first | (rw [hy184]; with_reducible exact H) | (have H2_ := (Option.bind_some _ _).symm.trans H; rw [hy184]; with_reducible exact H2_) | (have H2_ := (Option.bind_some _ _).symm.trans H; with_reducible exact H2_) | with_reducible exact H | (rw [hy184]; exact H) | exact H
  have Ny184 := qk4 hy184
  clear hy184
  have H' := qk4 H
  clear H
  go_enter Tryd.func89, Tryd.ntmps89
  go_wp2_with (first | ((with_reducible refine gate_dst (N := 6) rfl ?_); refine box_event ?hg (N := 6) ?hd (cs := #[.int .i64 0, .slice none 0 0, .slice none 0 0, .slice none 0 0]) (t := 51) ?hr ?_; (case hd => rfl); (case hg => rfl); (case hr => first | (go_simp; done) | (go_simp; rfl)); intro gb176 hg w5 hbox hb; have n0_ := qk4 (below_step (by repeat (first | (with_reducible first | exact HB.out | apply qg4 | apply qh4 | apply qi4) | exact HB.out)) hb); have n1_ := qk4 (hbox); have n2_ := qk4 ((by rw [hg]; exact (below_size (by repeat (first | (with_reducible first | exact HB.out | apply qg4 | apply qh4 | apply qi4) | exact HB.out))) : w.heap.size ≤ gb176)); have n3_ := qk4 ((by rw [hg]; exact (below_size (by repeat (first | (with_reducible first | exact HB.out | apply qg4 | apply qh4 | apply qi4) | exact HB.out))) : w.heap.size ≤ gb176)); clear HB; have HB := n0_; have BK176 := n1_; have GW176 := n2_; have GE176 := n3_; clear n0_ n1_ n2_ n3_; clear hb hbox hg) | ((with_reducible refine gate_callee (f := 56) rfl ?_); refine goesL_ (some 14) rfl rfl Tryd.func56 (by kernel_rfl) rfl #[.string a2] rfl (by (try simp only [List.map_toArray, List.map_cons, List.map_nil]); first | done | rfl | (simp only [List.length_drop, List.length_take]; rfl)) ?_; (with_reducible refine (spec_l03Bits.calls k a2 t177 _ A4.out).mono ?_); rintro e w6 ⟨rfl, hb⟩; refine ⟨_, rfl, ?_⟩; have n0_ := qk4 (blk_below (g := gb176) (o := .cells #[.int .i64 0, .slice none 0 0, .slice none 0 0, .slice none 0 0] 51 (0, 0)) (by (with_reducible repeat (first | apply qa4 | apply qb4 | apply qc4)); exact BK176.out) hb); have n1_ := qk4 (below_step (by repeat (first | (with_reducible first | exact HB.out | apply qg4 | apply qh4 | apply qi4 | refine qj4 ?_ GE176.out) | exact HB.out)) hb); clear BK176; clear HB; have BK176 := n0_; have HB := n1_; clear n0_ n1_; (try clear hb); (try clear hb2); (try clear hk); (try clear hi)) | ((with_reducible refine gate_dst (N := 16) rfl ?_); refine Kd.R_lit Kd.string _ 9 ?hg (N := 16) ?hd (xs := ([] : List ByteArray)) (inner := []) (ok := fun _ => True) (okp := fun _ => True) ?hr ?hp (fun _ hk => hk) trivial (Below.refl _ _) (Nat.le_refl _) (by simp) ?_; (case hd => rfl); (case hg => rfl); (case hr => first | (go_simp; done) | (go_simp; rfl)); (case hp => exact (Reps.none _ _)); intro v179 w7 ho8 hb hg_ hnew_; clear hg_ hnew_; (first | rw [← Ny178.out] at ho8 | (simp only [Int.reduceToNat] at ho8; rw [← Ny178.out] at ho8)); have n0_ := qk4 (Kd.R_lower ho8 (below_size (by repeat (first | (with_reducible first | exact HB.out | apply qg4 | apply qh4 | apply qi4 | refine qj4 ?_ GE176.out) | exact HB.out)))); have n1_ := qk4 (blk_below (g := gb176) (o := .cells #[.int .i64 0, .slice none 0 0, .slice none 0 0, .slice none 0 0] 51 (0, 0)) (by (with_reducible repeat (first | apply qa4 | apply qb4 | apply qc4)); exact BK176.out) hb); have n2_ := qk4 (below_step (by repeat (first | (with_reducible first | exact HB.out | apply qg4 | apply qh4 | apply qi4 | refine qj4 ?_ GE176.out) | exact HB.out)) hb); clear BK176; clear HB; have HO180 := n0_; have BK176 := n1_; have HB := n2_; clear n0_ n1_ n2_; clear hb ho8) | ((with_reducible refine gate_dst (N := 17) rfl ?_); refine Kd.R_lit Kd.string _ 9 ?hg (N := 17) ?hd (xs := ([] : List ByteArray)) (inner := []) (ok := fun _ => True) (okp := fun _ => True) ?hr ?hp (fun _ hk => hk) trivial (Below.refl _ _) (Nat.le_refl _) (by simp) ?_; (case hd => rfl); (case hg => rfl); (case hr => first | (go_simp; done) | (go_simp; rfl)); (case hp => exact (Reps.none _ _)); intro v182 w9 ho10 hb hg_ hnew_; clear hg_ hnew_; (first | rw [← Ny181.out] at ho10 | (simp only [Int.reduceToNat] at ho10; rw [← Ny181.out] at ho10)); have n0_ := qk4 (Kd.R_elder' (by (with_reducible repeat (first | apply qd4 | apply qe4 | apply qf4)); exact HO180.out) (Kd.R_base ho10) hb); have n1_ := qk4 (Kd.R_lower (Kd.R_new' ho10 (Kd.R_lt (by (with_reducible repeat (first | apply qd4 | apply qe4 | apply qf4)); exact HO180.out))) (below_size (by repeat (first | (with_reducible first | exact HB.out | apply qg4 | apply qh4 | apply qi4 | refine qj4 ?_ GE176.out) | exact HB.out)))); have n2_ := qk4 (blk_below (g := gb176) (o := .cells #[.int .i64 0, .slice none 0 0, .slice none 0 0, .slice none 0 0] 51 (0, 0)) (by (with_reducible repeat (first | apply qa4 | apply qb4 | apply qc4)); exact BK176.out) hb); have n3_ := qk4 (below_step (by repeat (first | (with_reducible first | exact HB.out | apply qg4 | apply qh4 | apply qi4 | refine qj4 ?_ GE176.out) | exact HB.out)) hb); clear HO180; clear BK176; clear HB; have HO180 := n0_; have HO183 := n1_; have BK176 := n2_; have HB := n3_; clear n0_ n1_ n2_ n3_; clear hb ho10) | ((with_reducible refine gate_dst (N := 18) rfl ?_); refine Kd.R_lit Kd.string _ 9 ?hg (N := 18) ?hd (xs := ([] : List ByteArray)) (inner := []) (ok := fun _ => True) (okp := fun _ => True) ?hr ?hp (fun _ hk => hk) trivial (Below.refl _ _) (Nat.le_refl _) (by simp) ?_; (case hd => rfl); (case hg => rfl); (case hr => first | (go_simp; done) | (go_simp; rfl)); (case hp => exact (Reps.none _ _)); intro v185 w11 ho12 hb hg_ hnew_; clear hg_ hnew_; (first | rw [← Ny184.out] at ho12 | (simp only [Int.reduceToNat] at ho12; rw [← Ny184.out] at ho12)); have n0_ := qk4 (Kd.R_elder' (by (with_reducible repeat (first | apply qd4 | apply qe4 | apply qf4)); exact HO180.out) (Kd.R_base ho12) hb); have n1_ := qk4 (Kd.R_elder' (by (with_reducible repeat (first | apply qd4 | apply qe4 | apply qf4)); exact HO183.out) (Kd.R_base ho12) hb); have n2_ := qk4 (Kd.R_lower (Kd.R_new' (Kd.R_new' ho12 (Kd.R_lt (by (with_reducible repeat (first | apply qd4 | apply qe4 | apply qf4)); exact HO180.out))) (Kd.R_lt (by (with_reducible repeat (first | apply qd4 | apply qe4 | apply qf4)); exact HO183.out))) (below_size (by repeat (first | (with_reducible first | exact HB.out | apply qg4 | apply qh4 | apply qi4 | refine qj4 ?_ GE176.out) | exact HB.out)))); have n3_ := qk4 (blk_below (g := gb176) (o := .cells #[.int .i64 0, .slice none 0 0, .slice none 0 0, .slice none 0 0] 51 (0, 0)) (by (with_reducible repeat (first | apply qa4 | apply qb4 | apply qc4)); exact BK176.out) hb); have n4_ := qk4 (below_step (by repeat (first | (with_reducible first | exact HB.out | apply qg4 | apply qh4 | apply qi4 | refine qj4 ?_ GE176.out) | exact HB.out)) hb); clear HO180; clear HO183; clear BK176; clear HB; have HO180 := n0_; have HO183 := n1_; have HO186 := n2_; have BK176 := n3_; have HB := n4_; clear n0_ n1_ n2_ n3_ n4_; clear hb ho12; obtain ⟨Ao13, co13, eo13⟩ := Kd.R_slice HO186.out; subst eo13; obtain ⟨Ao14, co14, eo14⟩ := Kd.R_slice HO183.out; subst eo14; obtain ⟨Ao15, co15, eo15⟩ := Kd.R_slice HO180.out; subst eo15) | ((with_reducible refine gate_dst (N := 8) rfl ?_); refine box_event ?hg (N := 8) ?hd (cs := #[.int .i64 0, .slice none 0 0, .slice none 0 0, .slice none 0 0]) (t := 51) ?hr ?_; (case hd => rfl); (case hg => rfl); (case hr => first | (go_simp; done) | (go_simp; rfl)); intro gb187 hg w16 hbox hb; have n0_ := qk4 (Kd.R_below (by (with_reducible repeat (first | apply qd4 | apply qe4 | apply qf4)); exact HO180.out) hb); have n1_ := qk4 (Kd.R_below (by (with_reducible repeat (first | apply qd4 | apply qe4 | apply qf4)); exact HO183.out) hb); have n2_ := qk4 (Kd.R_below (by (with_reducible repeat (first | apply qd4 | apply qe4 | apply qf4)); exact HO186.out) hb); have n3_ := qk4 (blk_below (g := gb176) (o := .cells #[.int .i64 0, .slice none 0 0, .slice none 0 0, .slice none 0 0] 51 (0, 0)) (by (with_reducible repeat (first | apply qa4 | apply qb4 | apply qc4)); exact BK176.out) hb); have n4_ := qk4 (below_step (by repeat (first | (with_reducible first | exact HB.out | apply qg4 | apply qh4 | apply qi4 | refine qj4 ?_ GE176.out) | exact HB.out)) hb); have n5_ := qk4 (hbox); have n6_ := qk4 ((by rw [hg]; exact (below_size (by repeat (first | (with_reducible first | exact HB.out | apply qg4 | apply qh4 | apply qi4 | refine qj4 ?_ GE176.out) | exact HB.out))) : w.heap.size ≤ gb187)); have n7_ := qk4 ((by rw [hg]; exact (below_size (by repeat (first | (with_reducible first | exact HB.out | apply qg4 | apply qh4 | apply qi4 | refine qj4 ?_ GE176.out) | exact HB.out))) : w.heap.size ≤ gb187)); have n8_ := qk4 ((by rw [hg]; exact Nat.ne_of_lt (blk_lt (g := gb176) (o := .cells #[.int .i64 0, .slice none 0 0, .slice none 0 0, .slice none 0 0] 51 (0, 0)) (by (with_reducible repeat (first | apply qa4 | apply qb4 | apply qc4)); exact BK176.out)) : gb176 ≠ gb187)); have n9_ := qk4 ((by rw [hg]; exact Nat.ne_of_gt (blk_lt (g := gb176) (o := .cells #[.int .i64 0, .slice none 0 0, .slice none 0 0, .slice none 0 0] 51 (0, 0)) (by (with_reducible repeat (first | apply qa4 | apply qb4 | apply qc4)); exact BK176.out)) : gb187 ≠ gb176)); clear HO180; clear HO183; clear HO186; clear BK176; clear HB; have HO180 := n0_; have HO183 := n1_; have HO186 := n2_; have BK176 := n3_; have HB := n4_; have BK187 := n5_; have GW187 := n6_; have GE187 := n7_; have NB176_187 := n8_; have NB187_176 := n9_; clear n0_ n1_ n2_ n3_ n4_ n5_ n6_ n7_ n8_ n9_; clear hb hbox hg; have hnb17 := NB187_176.out; have hnc17 := NB176_187.out; have hcz18_0 : w16.cell? ⟨gb187, 0, none⟩ = some (.int .i64 0) := (blk_cell BK187.out 0).trans rfl; have hcz18_1 : w16.cell? ⟨gb187, 1, none⟩ = some (.slice none 0 0) := (blk_cell BK187.out 1).trans rfl; have hcz18_2 : w16.cell? ⟨gb187, 2, none⟩ = some (.slice none 0 0) := (blk_cell BK187.out 2).trans rfl; have hcz18_3 : w16.cell? ⟨gb187, 3, none⟩ = some (.slice none 0 0) := (blk_cell BK187.out 3).trans rfl; have hfz18_0 := blk_frozen BK187.out 0; have hfz18_1 := blk_frozen BK187.out 1; have hfz18_2 := blk_frozen BK187.out 2; have hfz18_3 := blk_frozen BK187.out 3))
  go_loopg [9] k (fun kq v9 w' => ∃ (x9_1 : Int) (x188001_1 : List ByteArray) (x188002_1 : List ByteArray) (u188001 : Value) (u188002 : Value), v9 = .int .i64 x9_1 ∧ Aside0 (spec_l03Sign.l0 kq a0 a1 t177 x9_1 a1 x188001_1 x188002_1 y184 = some (r1, r2, r3, r4)) ∧ Aside0 (kq ≤ k) ∧ Aside0 (Kd.R Kd.string 9 w' w.heap.size (fun k_ => some k_ ≠ (u188002 : Value).ownBlock ∧ some k_ ≠ ((.slice Ao13 y184.length co13) : Value).ownBlock) u188001 x188001_1) ∧ Aside0 (Kd.R Kd.string 9 w' w.heap.size (fun k_ => some k_ ≠ (u188001 : Value).ownBlock ∧ some k_ ≠ ((.slice Ao13 y184.length co13) : Value).ownBlock) u188002 x188002_1) ∧ Aside0 (Kd.R Kd.string 9 w' w.heap.size (fun k_ => some k_ ≠ (u188001 : Value).ownBlock ∧ some k_ ≠ (u188002 : Value).ownBlock) (.slice Ao13 y184.length co13) y184) ∧ Aside0 (w'.heap[gb176]? = some (.cells #[.int .i64 0, (.slice none 0 0), (.slice none 0 0), (.slice none 0 0)] 51 (0, 0))) ∧ Aside0 (w'.heap[gb187]? = some (.cells #[.int .i64 a1, u188001, u188002, (.slice Ao13 y184.length co13)] 51 (0, 0))) ∧ Aside0 (Below w.heap.size w w'))
  case atStart => exact ⟨(0), (y178), (y181), (.slice Ao15 y178.length co15), (.slice Ao14 y181.length co14), (by first | rfl | (simp; done) | (simp [*]; done)), H', ⟨Nat.le_refl _⟩, ⟨by (with_reducible repeat (first | apply qd4 | apply qe4 | apply qf4)); exact qm4 (ql4 (p := ⟨gb187, 3, none⟩) (ql4 (p := ⟨gb187, 2, none⟩) (ql4 (p := ⟨gb187, 1, none⟩) (ql4 (p := ⟨gb187, 0, none⟩) (Kd.R_types HO180.out BK187.out (by decide)) (fun _ hk => hk.2) (.int .i64 a1)) (fun _ hk => hk.2) (.slice Ao15 y178.length co15)) (fun _ hk => hk.2) (.slice Ao14 y181.length co14)) (fun _ hk => hk.2) (.slice Ao13 y184.length co13)) (fun _ hk => ⟨hk.1.1.2, hk.1.2⟩)⟩, ⟨by (with_reducible repeat (first | apply qd4 | apply qe4 | apply qf4)); exact qm4 (ql4 (p := ⟨gb187, 3, none⟩) (ql4 (p := ⟨gb187, 2, none⟩) (ql4 (p := ⟨gb187, 1, none⟩) (ql4 (p := ⟨gb187, 0, none⟩) (Kd.R_types HO183.out BK187.out (by decide)) (fun _ hk => hk.2) (.int .i64 a1)) (fun _ hk => hk.2) (.slice Ao15 y178.length co15)) (fun _ hk => hk.2) (.slice Ao14 y181.length co14)) (fun _ hk => hk.2) (.slice Ao13 y184.length co13)) (fun _ hk => ⟨hk.1.1.2, hk.1.2⟩)⟩, ⟨by (with_reducible repeat (first | apply qd4 | apply qe4 | apply qf4)); exact qm4 (ql4 (p := ⟨gb187, 3, none⟩) (ql4 (p := ⟨gb187, 2, none⟩) (ql4 (p := ⟨gb187, 1, none⟩) (ql4 (p := ⟨gb187, 0, none⟩) (Kd.R_types HO186.out BK187.out (by decide)) (fun _ hk => hk.2) (.int .i64 a1)) (fun _ hk => hk.2) (.slice Ao15 y178.length co15)) (fun _ hk => hk.2) (.slice Ao14 y181.length co14)) (fun _ hk => hk.2) (.slice Ao13 y184.length co13)) (fun _ hk => ⟨hk.1.1.2, hk.1.2⟩)⟩, ⟨by (with_reducible repeat (first | apply qa4 | apply qb4 | apply qc4)); refine blk_far ?_ NB176_187.out _; (with_reducible repeat (first | apply qa4 | apply qb4 | apply qc4)); refine blk_far ?_ NB176_187.out _; (with_reducible repeat (first | apply qa4 | apply qb4 | apply qc4)); refine blk_far ?_ NB176_187.out _; (with_reducible repeat (first | apply qa4 | apply qb4 | apply qc4)); refine blk_far ?_ NB176_187.out _; (with_reducible repeat (first | apply qa4 | apply qb4 | apply qc4)); exact BK176.out⟩, ⟨by (with_reducible repeat (first | apply qa4 | apply qb4 | apply qc4)); refine blk_put (cs := #[.int .i64 a1, .slice Ao15 y178.length co15, .slice Ao14 y181.length co14, .slice none 0 0]) ?_ 3 _ rfl; (with_reducible repeat (first | apply qa4 | apply qb4 | apply qc4)); refine blk_put (cs := #[.int .i64 a1, .slice Ao15 y178.length co15, .slice none 0 0, .slice none 0 0]) ?_ 2 _ rfl; (with_reducible repeat (first | apply qa4 | apply qb4 | apply qc4)); refine blk_put (cs := #[.int .i64 a1, .slice none 0 0, .slice none 0 0, .slice none 0 0]) ?_ 1 _ rfl; (with_reducible repeat (first | apply qa4 | apply qb4 | apply qc4)); refine blk_put (cs := #[.int .i64 0, .slice none 0 0, .slice none 0 0, .slice none 0 0]) ?_ 0 _ rfl; (with_reducible repeat (first | apply qa4 | apply qb4 | apply qc4)); exact BK187.out⟩, ⟨by repeat (first | (with_reducible first | exact HB.out | apply qg4 | apply qh4 | apply qi4 | refine qj4 ?_ GE176.out | refine qj4 ?_ GE187.out) | exact HB.out)⟩⟩
  case round =>
    clear H'
    try clear c1
    try clear p2
    try clear c5
    try clear c8
    try clear c17
    try clear hcz18_0
    try clear hcz18_1
    try clear hcz18_2
    try clear hcz18_3
    try clear hfz18_0
    try clear hfz18_1
    try clear hfz18_2
    try clear hfz18_3
    obtain ⟨x9_1, x188001_1, x188002_1, u188001, u188002, rfl, HA, HK1, HO_188001, HO_188002, HO_188003, BK176, BK187, HB⟩ := hrel
    cases gk with
    | zero => exact absurd HA.out (by simp [spec_l03Sign.l0])
    | succ k1 =>
      have H := HA.out
      clear HA
      simp only [spec_l03Sign.l0] at H
      by_cases c19 : x9_1 < 32
      · rw [if_pos c19] at H
        have c19b0 : decide (x9_1 < 32) = true := decide_eq_true c19
        clear c19
        by_cases c20 : 0 ≤ x9_1
        · rw [if_pos c20] at H
          have c20b0 : decide (0 ≤ x9_1) = true := decide_eq_true c20
          clear c20
          by_cases c21 : x9_1 < (t177.size : Int)
          · rw [if_pos c21] at H
            have c21b0 : decide (x9_1 < (t177.size : Int)) = true := decide_eq_true c21
            clear c21
            replace H := Option.bind_eq_some_iff.mp H
            obtain ⟨t188, A230, H⟩ := H
            replace H : (if x188001_1.length < 8796093022208 then ((spec_l03Secret.f a0 a1 x9_1 (wrap64 (1 - (((bt t177 x9_1) - 48) % 256)))).bind fun t192 => (if t192.size ≤ 9223372036854775807 then ((spec_l01Hash.f (bytesOf t192)).bind fun t196 => (if x188002_1.length < 8796093022208 then (spec_l03Sign.l0 k1 a0 a1 t177 (wrap64 (x9_1 + 1)) a1 (x188001_1 ++ [t188]) (x188002_1 ++ [t196]) y184) else (none))) else (none))) else (none)) = some (r1, r2, r3, r4) := H
            have A23 := qk4 A230
            clear A230
            by_cases c24 : x188001_1.length < 8796093022208
            · rw [if_pos c24] at H
              have LMc24 := qk4 c24
              clear c24
              obtain ⟨y189, hy189⟩ : ∃ y_ : List ByteArray, y_ = (x188001_1 ++ [t188]) := ⟨_, rfl⟩
              replace H : ((spec_l03Secret.f a0 a1 x9_1 (wrap64 (1 - (((bt t177 x9_1) - 48) % 256)))).bind fun t192 => (if t192.size ≤ 9223372036854775807 then ((spec_l01Hash.f (bytesOf t192)).bind fun t196 => (if x188002_1.length < 8796093022208 then (spec_l03Sign.l0 k1 a0 a1 t177 (wrap64 (x9_1 + 1)) a1 y189 (x188002_1 ++ [t196]) y184) else (none))) else (none))) = some (r1, r2, r3, r4) := by first | (rw [hy189]; with_reducible exact H) | (have H2_ := (Option.bind_some _ _).symm.trans H; rw [hy189]; with_reducible exact H2_) | (have H2_ := (Option.bind_some _ _).symm.trans H; with_reducible exact H2_) | with_reducible exact H | (rw [hy189]; exact H) | exact H
              have Ny189 := qk4 hy189
              clear hy189
              replace H := Option.bind_eq_some_iff.mp H
              obtain ⟨t192, A250, H⟩ := H
              replace H : (if t192.size ≤ 9223372036854775807 then ((spec_l01Hash.f (bytesOf t192)).bind fun t196 => (if x188002_1.length < 8796093022208 then (spec_l03Sign.l0 k1 a0 a1 t177 (wrap64 (x9_1 + 1)) a1 y189 (x188002_1 ++ [t196]) y184) else (none))) else (none)) = some (r1, r2, r3, r4) := H
              have A25 := qk4 A250
              clear A250
              by_cases c26 : t192.size ≤ 9223372036854775807
              · rw [if_pos c26] at H
                have c26b0 := eq_true c26
                have c26b1 : decide (t192.size ≤ 9223372036854775807) = true := decide_eq_true c26
                try have c26b2 : (9223372036854775807 < t192.size) = False := eq_false (Nat.not_lt.2 c26)
                clear c26
                obtain ⟨y193, hy193⟩ : ∃ y_ : List Int, y_ = (bytesOf t192) := ⟨_, rfl⟩
                replace H : ((spec_l01Hash.f y193).bind fun t196 => (if x188002_1.length < 8796093022208 then (spec_l03Sign.l0 k1 a0 a1 t177 (wrap64 (x9_1 + 1)) a1 y189 (x188002_1 ++ [t196]) y184) else (none))) = some (r1, r2, r3, r4) := by first | (rw [hy193]; with_reducible exact H) | (have H2_ := (Option.bind_some _ _).symm.trans H; rw [hy193]; with_reducible exact H2_) | (have H2_ := (Option.bind_some _ _).symm.trans H; with_reducible exact H2_) | with_reducible exact H | (rw [hy193]; exact H) | exact H
                have Ny193 := qk4 hy193
                clear hy193
                replace H := Option.bind_eq_some_iff.mp H
                obtain ⟨t196, A270, H⟩ := H
                replace H : (if x188002_1.length < 8796093022208 then (spec_l03Sign.l0 k1 a0 a1 t177 (wrap64 (x9_1 + 1)) a1 y189 (x188002_1 ++ [t196]) y184) else (none)) = some (r1, r2, r3, r4) := H
                have A27 := qk4 A270
                clear A270
                by_cases c28 : x188002_1.length < 8796093022208
                · rw [if_pos c28] at H
                  have LMc28 := qk4 c28
                  clear c28
                  obtain ⟨y197, hy197⟩ : ∃ y_ : List ByteArray, y_ = (x188002_1 ++ [t196]) := ⟨_, rfl⟩
                  replace H : (spec_l03Sign.l0 k1 a0 a1 t177 (wrap64 (x9_1 + 1)) a1 y189 y197 y184) = some (r1, r2, r3, r4) := by first | (rw [hy197]; with_reducible exact H) | (have H2_ := (Option.bind_some _ _).symm.trans H; rw [hy197]; with_reducible exact H2_) | (have H2_ := (Option.bind_some _ _).symm.trans H; with_reducible exact H2_) | with_reducible exact H | (rw [hy197]; exact H) | exact H
                  have Ny197 := qk4 hy197
                  clear hy197
                  have H' := qk4 H
                  clear H
                  have p22 : 0 ≤ (x9_1 : Int) := of_decide_eq_true (by first | (with_reducible assumption) | assumption)
                  have q22 : x9_1 < (t177.size : Int) := of_decide_eq_true (by first | (with_reducible assumption) | assumption)
                  have hx22 := bt_at t177 x9_1
                  have bl22 := (bt_range t177 x9_1).1
                  have bh22 := (bt_range t177 x9_1).2
                  replace p22 := eq_true p22
                  replace q22 := eq_true q22
                  try go_wp2
                  have n0_ := qk4 (qf4 HO_188001.out)
                  have n1_ := qk4 (qf4 HO_188002.out)
                  have n2_ := qk4 (qf4 HO_188003.out)
                  have n3_ := qk4 (qb4 BK176.out)
                  have n4_ := qk4 (qb4 BK187.out)
                  have n5_ := qk4 (qi4 HB.out)
                  clear HO_188001
                  clear HO_188002
                  clear HO_188003
                  clear BK176
                  clear BK187
                  clear HB
                  have HO_188001 := n0_
                  have HO_188002 := n1_
                  have HO_188003 := n2_
                  have BK176 := n3_
                  have BK187 := n4_
                  have HB := n5_
                  clear n0_ n1_ n2_ n3_ n4_ n5_
                  refine start_ (n := 11) (S := fun w' => w'.cell? ⟨gb187, 0, none⟩ = some (.int .i64 a1) ∧ w'.cell? ⟨gb187, 1, none⟩ = some (u188001) ∧ w'.cell? ⟨gb187, 2, none⟩ = some (u188002) ∧ w'.cell? ⟨gb187, 3, none⟩ = some (.slice Ao13 y184.length co13)) (ds := [10]) #[false, false, false, false, false, false, false, false, false, false, false] (by kernel_rfl) rfl rfl ⟨(blk_cell BK187.out 0).trans rfl, (blk_cell BK187.out 1).trans rfl, (blk_cell BK187.out 2).trans rfl, (blk_cell BK187.out 3).trans rfl⟩ (fun hHeld => ?_); refine with_tabW spec_l03Sign.tab7 spec_l03Sign.bits7 (fun HT_ HW_ => ?_)
                  generalize wr.drew = w29 at HO_188001 HO_188002 HO_188003 BK176 BK187 HB hHeld ⊢
                  refine pure_ (i := 0) (N := some 29) (v := ?_) (a' := ?_) #[true, false, false, false, false, false, false, false, false, false, false] rfl rfl (any_of HT_.out (by kernel_rfl)) (fun _ _ _ h => h) (Or.inl ⟨by rfl, ?_⟩) ?_ ?_
                  rotate_left
                  · intro w'
                    go_simp
                    with_reducible rfl
                  rotate_left
                  · simp only [Act.put, List.setIfInBounds_toArray, List.set_cons_zero, List.set_cons_succ, i64_w, i32_w]
                    rfl
                  refine pure_ (i := 2) (N := some 31) (v := ?_) (a' := ?_) #[true, false, true, false, false, false, false, false, false, false, false] rfl rfl (any_of HT_.out (by kernel_rfl)) (fun _ _ _ h => h) (Or.inl ⟨by rfl, ?_⟩) ?_ ?_
                  rotate_left
                  · intro w'
                    go_simp
                    with_reducible rfl
                  rotate_left
                  · simp only [Act.put, List.setIfInBounds_toArray, List.set_cons_zero, List.set_cons_succ, i64_w, i32_w]
                    rfl
                  refine pure_ (i := 3) (N := some 32) (v := ?_) (a' := ?_) #[true, false, true, true, false, false, false, false, false, false, false] rfl rfl (any_of HT_.out (by kernel_rfl)) (fun _ _ _ h => h) (Or.inl ⟨by rfl, ?_⟩) ?_ ?_
                  rotate_left
                  · intro w'
                    go_simp
                    with_reducible rfl
                  rotate_left
                  · simp only [Act.put, List.setIfInBounds_toArray, List.set_cons_zero, List.set_cons_succ, i64_w, i32_w]
                    rfl
                  refine pure_ (i := 4) (N := some 33) (v := ?_) (a' := ?_) #[true, false, true, true, true, false, false, false, false, false, false] rfl rfl (any_of HT_.out (by kernel_rfl)) (fun _ _ _ h => h) (Or.inl ⟨by rfl, ?_⟩) ?_ ?_
                  rotate_left
                  · intro w'
                    go_simp
                    with_reducible rfl
                  rotate_left
                  · simp only [Act.put, List.setIfInBounds_toArray, List.set_cons_zero, List.set_cons_succ, i64_w, i32_w]
                    rfl
                  refine pure_ (i := 5) (N := some 34) (v := ?_) (a' := ?_) #[true, false, true, true, true, true, false, false, false, false, false] rfl rfl (any_of HT_.out (by kernel_rfl)) (fun _ _ _ h => h) (Or.inl ⟨by rfl, ?_⟩) ?_ ?_
                  rotate_left
                  · intro w'
                    go_simp
                    with_reducible rfl
                  rotate_left
                  · simp only [Act.put, List.setIfInBounds_toArray, List.set_cons_zero, List.set_cons_succ, i64_w, i32_w]
                    rfl
                  refine take_ (i := 1) (N := some 30) (v := ?_) (a' := ?_) #[true, true, true, true, true, true, false, false, false, false, false] rfl rfl (take_ofW HT_.out HW_.out (by kernel_rfl)) (fun _ _ _ h => h) (Or.inl ⟨by rfl, ?_⟩) hHeld ?_ ?_
                  rotate_left
                  · rintro w' ⟨s0, s1, s2, s3⟩
                    go_simp
                    with_reducible rfl
                  rotate_left
                  · simp only [Act.put, List.setIfInBounds_toArray, List.set_cons_zero, List.set_cons_succ, i64_w, i32_w]
                    rfl
                  refine one_ (i := 6) (N := some 35) #[true, true, true, true, true, true, true, false, false, false, false] rfl rfl (one_of HT_.out (by kernel_rfl)) (by decide) (fun K hK => ?_)
                  refine goes_ Tryd.func62 (by kernel_rfl) rfl #[.string a0, .int .i64 a1, .int .i64 x9_1, .int .i64 (((bt t177 x9_1) - 48) % 256)] (by rfl) rfl rfl (by (try simp only [List.map_toArray, List.map_cons, List.map_nil]); first | done | rfl | (simp only [List.length_drop, List.length_take]; rfl)) ?_
                  with_reducible refine (spec_l03Secret.calls a0 a1 x9_1 (((bt t177 x9_1) - 48) % 256) t188 _ A23.out).mono ?_
                  rintro e w30 ⟨rfl, hb⟩
                  refine ⟨_, rfl, ?_⟩
                  have n0_ := qk4 (Kd.R_below (by (with_reducible repeat (first | apply qd4 | apply qe4 | apply qf4)); exact HO_188001.out) hb)
                  have n1_ := qk4 (Kd.R_below (by (with_reducible repeat (first | apply qd4 | apply qe4 | apply qf4)); exact HO_188002.out) hb)
                  have n2_ := qk4 (Kd.R_below (by (with_reducible repeat (first | apply qd4 | apply qe4 | apply qf4)); exact HO_188003.out) hb)
                  have n3_ := qk4 (blk_below (g := gb176) (o := .cells #[.int .i64 0, .slice none 0 0, .slice none 0 0, .slice none 0 0] 51 (0, 0)) (by (with_reducible repeat (first | apply qa4 | apply qb4 | apply qc4)); exact BK176.out) hb)
                  have n4_ := qk4 (blk_below (g := gb187) (o := .cells #[.int .i64 a1, u188001, u188002, .slice Ao13 y184.length co13] 51 (0, 0)) (by (with_reducible repeat (first | apply qa4 | apply qb4 | apply qc4)); exact BK187.out) hb)
                  have n5_ := qk4 (below_step (by repeat (first | (with_reducible first | exact HB.out | apply qg4 | apply qh4 | apply qi4 | refine qj4 ?_ GE176.out | refine qj4 ?_ GE187.out) | exact HB.out)) hb)
                  clear HO_188001
                  clear HO_188002
                  clear HO_188003
                  clear BK176
                  clear BK187
                  clear HB
                  have HO_188001 := n0_
                  have HO_188002 := n1_
                  have HO_188003 := n2_
                  have BK176 := n3_
                  have BK187 := n4_
                  have HB := n5_
                  clear n0_ n1_ n2_ n3_ n4_ n5_
                  (try clear hb)
                  (try clear hb2)
                  (try clear hk)
                  (try clear hi)
                  refine hK.out _ _ ⟨(blk_cell BK187.out 0).trans rfl, (blk_cell BK187.out 1).trans rfl, (blk_cell BK187.out 2).trans rfl, (blk_cell BK187.out 3).trans rfl⟩ (fun hHeld => ?_)
                  clear hK K
                  refine norm_ (a' := ?_) ?_ ?_
                  rotate_left
                  · show Act.put _ (some 35) _ = _
                    simp only [Act.put, List.setIfInBounds_toArray, List.set_cons_zero, List.set_cons_succ, i64_w, i32_w]
                    rfl
                  refine one_ (i := 7) (N := some 36) #[true, true, true, true, true, true, true, true, false, false, false] rfl rfl (one_of HT_.out (by kernel_rfl)) (by decide) (fun K hK => ?_)
                  refine value_ (w1 := ?_) (v := ?_) (by rfl) rfl ?_ ?_
                  rotate_left 2
                  · go_simp
                    constructor
                    · rfl
                    · rfl
                  refine hK.out _ _ ⟨(blk_cell (qc4 BK187.out _) 0).trans rfl, (blk_cell (qc4 BK187.out _) 1).trans rfl, (blk_cell (qc4 BK187.out _) 2).trans rfl, (blk_cell (qc4 BK187.out _) 3).trans rfl⟩ (fun hHeld => ?_)
                  clear hK K
                  refine norm_ (a' := ?_) ?_ ?_
                  rotate_left
                  · show Act.put _ (some 36) _ = _
                    simp only [Act.put, List.setIfInBounds_toArray, List.set_cons_zero, List.set_cons_succ, i64_w, i32_w]
                    rfl
                  refine one_ (i := 8) (N := some 37) #[true, true, true, true, true, true, true, true, true, false, false] rfl rfl (one_of HT_.out (by kernel_rfl)) (by decide) (fun K hK => ?_)
                  refine Kd.R_append_step Kd.string (w0 := w) w.heap.size (by rfl) (.tmp 30) (.tmp 36) 46 9 (.string ⟨#[]⟩) 16 rfl Tryd.underlying46 info9 rfl (by decide) (by omega) u188001 x188001_1 t188 [.string t188] (fun k_ => some k_ ≠ (u188002 : Value).ownBlock ∧ some k_ ≠ (.slice Ao13 y184.length co13 : Value).ownBlock) (fun _ => False) rfl rfl ?aP (fun _ hk => hk.elim) ?aF ?aO ?aB ?aS ?aL ?_
                  (case aP => exact rfl)
                  (case aB => exact (by repeat (first | (with_reducible first | exact HB.out | apply qg4 | apply qh4 | apply qi4 | refine qj4 ?_ GE176.out | refine qj4 ?_ GE187.out) | exact HB.out)))
                  (case aF => exact (fun k_ hk => ⟨Kd.fresh' (Kd.R_lt (by (with_reducible repeat (first | apply qd4 | apply qe4 | apply qf4)); exact HO_188002.out)) k_ hk, Kd.fresh' (Kd.R_lt (by (with_reducible repeat (first | apply qd4 | apply qe4 | apply qf4)); exact HO_188003.out)) k_ hk⟩))
                  (case aO => exact (by (with_reducible repeat (first | apply qd4 | apply qe4 | apply qf4)); exact HO_188001.out))
                  (case aS => exact (below_size (by repeat (first | (with_reducible first | exact HB.out | apply qg4 | apply qh4 | apply qi4 | refine qj4 ?_ GE176.out | refine qj4 ?_ GE187.out) | exact HB.out))))
                  (case aL => have := LMc24.out; omega)
                  intro v190 w31 ho hb hg hat
                  rw [← Ny189.out] at ho
                  have n0_ := qk4 (Kd.R_after (ok := (fun k_ => some k_ ≠ (.slice Ao13 y184.length co13 : Value).ownBlock)) (by (with_reducible repeat (first | apply qd4 | apply qe4 | apply qf4)); exact qm4 HO_188002.out (fun _ hk => ⟨hk.2, hk.1⟩)) hg hat)
                  have n1_ := qk4 (Kd.R_after (ok := (fun k_ => some k_ ≠ (u188002 : Value).ownBlock)) (by (with_reducible repeat (first | apply qd4 | apply qe4 | apply qf4)); exact qm4 HO_188003.out (fun _ hk => ⟨hk.2, hk.1⟩)) hg hat)
                  have n2_ := qk4 (blk_grown (g := gb176) (o := .cells #[.int .i64 0, .slice none 0 0, .slice none 0 0, .slice none 0 0] 51 (0, 0)) (by (with_reducible repeat (first | apply qa4 | apply qb4 | apply qc4)); exact BK176.out) hg (Kd.R_ne HO_188001.out BK176.out (by decide)))
                  have n3_ := qk4 (blk_grown (g := gb187) (o := .cells #[.int .i64 a1, u188001, u188002, .slice Ao13 y184.length co13] 51 (0, 0)) (by (with_reducible repeat (first | apply qa4 | apply qb4 | apply qc4)); exact BK187.out) hg (Kd.R_ne HO_188001.out BK187.out (by decide)))
                  have n4_ := qk4 (hb)
                  have n5_ := qk4 (ho)
                  clear HO_188002
                  clear HO_188003
                  clear BK176
                  clear BK187
                  clear HB
                  clear HO_188001
                  have HO_188002 := n0_
                  have HO_188003 := n1_
                  have BK176 := n2_
                  have BK187 := n3_
                  have HB := n4_
                  have HO191 := n5_
                  clear n0_ n1_ n2_ n3_ n4_ n5_
                  clear ho hb hg hat
                  obtain ⟨Ao32, co32, eo32⟩ := Kd.R_slice HO191.out
                  (first | subst eo32 | (injection eo32 with f1_ f2_ f3_; have f4_ := f1_.symm; have f5_ := f3_.symm; clear f1_ f2_ f3_; subst f4_; subst f5_))
                  refine hK.out _ _ ⟨(blk_cell BK187.out 0).trans rfl, (blk_cell BK187.out 1).trans rfl, (blk_cell BK187.out 2).trans rfl, (blk_cell BK187.out 3).trans rfl⟩ (fun hHeld => ?_)
                  clear hK K
                  refine norm_ (a' := ?_) ?_ ?_
                  rotate_left
                  · show Act.put _ (some 37) _ = _
                    simp only [Act.put, List.setIfInBounds_toArray, List.set_cons_zero, List.set_cons_succ, i64_w, i32_w]
                    rfl
                  refine pure_ (i := 9) (N := some 38) (v := ?_) (a' := ?_) #[true, true, true, true, true, true, true, true, true, true, false] rfl rfl (any_of HT_.out (by kernel_rfl)) (fun _ _ _ h => h) (Or.inl ⟨by rfl, ?_⟩) ?_ ?_
                  rotate_left
                  · intro w'
                    go_simp
                    with_reducible rfl
                  rotate_left
                  · simp only [Act.put, List.setIfInBounds_toArray, List.set_cons_zero, List.set_cons_succ, i64_w, i32_w]
                    rfl
                  refine last_ (i := 10) (N := none) #[true, true, true, true, true, true, true, true, true, true, true] rfl rfl (one_of HT_.out (by kernel_rfl)) (by decide) (fun K hK => ?_)
                  have hs33 : w31.cell? ⟨gb187, 1, none⟩ = some (u188001) := (blk_cell BK187.out 1).trans rfl
                  have hfs33 := blk_frozen BK187.out 1
                  have hns33_0 := NB176_187.out
                  have hms33_0 := NB187_176.out
                  refine skip_ (w1 := ?_) (by rfl) rfl ?_ ?_
                  rotate_left
                  · go_simp
                    rfl
                  refine hK.out _ _ ?_
                  clear hK K
                  refine done_ (done_of HT_.out (by kernel_rfl)) ?_
                  try go_wp2
                  have n0_ : Aside0 (Kd.R Kd.string 9 (w31.setCell ⟨gb187, 1, none⟩ (.slice Ao32 y189.length co32)) w.heap.size (fun k_ => some k_ ≠ (.slice Ao13 y184.length co13 : Value).ownBlock ∧ some k_ ≠ (.slice Ao32 y189.length co32 : Value).ownBlock) u188002 x188002_1) := ⟨by (with_reducible repeat (first | apply qd4 | apply qe4 | apply qf4)); exact qm4 (ql4 (p := ⟨gb187, 1, none⟩) (Kd.R_types HO_188002.out BK187.out (by decide)) (fun _ hk => hk.2) (.slice Ao32 y189.length co32)) (fun _ hk => ⟨hk.1.1, hk.1.2⟩)⟩
                  have n1_ : Aside0 (Kd.R Kd.string 9 (w31.setCell ⟨gb187, 1, none⟩ (.slice Ao32 y189.length co32)) w.heap.size (fun k_ => some k_ ≠ (u188002 : Value).ownBlock ∧ some k_ ≠ (.slice Ao32 y189.length co32 : Value).ownBlock) (.slice Ao13 y184.length co13) y184) := ⟨by (with_reducible repeat (first | apply qd4 | apply qe4 | apply qf4)); exact qm4 (ql4 (p := ⟨gb187, 1, none⟩) (Kd.R_types HO_188003.out BK187.out (by decide)) (fun _ hk => hk.2) (.slice Ao32 y189.length co32)) (fun _ hk => ⟨hk.1.1, hk.1.2⟩)⟩
                  have n2_ : Aside0 (Kd.R Kd.string 9 (w31.setCell ⟨gb187, 1, none⟩ (.slice Ao32 y189.length co32)) w.heap.size (fun k_ => some k_ ≠ (u188002 : Value).ownBlock ∧ some k_ ≠ (.slice Ao13 y184.length co13 : Value).ownBlock) (.slice Ao32 y189.length co32) y189) := ⟨by (with_reducible repeat (first | apply qd4 | apply qe4 | apply qf4)); exact qm4 (ql4 (p := ⟨gb187, 1, none⟩) (Kd.R_types HO191.out BK187.out (by decide)) (fun _ hk => hk.2) (.slice Ao32 y189.length co32)) (fun _ hk => ⟨hk.1.1, hk.1.2⟩)⟩
                  have n3_ : Aside0 ((w31.setCell ⟨gb187, 1, none⟩ (.slice Ao32 y189.length co32)).heap[gb176]? = some (.cells #[.int .i64 0, .slice none 0 0, .slice none 0 0, .slice none 0 0] 51 (0, 0))) := ⟨by (with_reducible repeat (first | apply qa4 | apply qb4 | apply qc4)); refine blk_far ?_ NB176_187.out _; (with_reducible repeat (first | apply qa4 | apply qb4 | apply qc4)); exact BK176.out⟩
                  have n4_ : Aside0 ((w31.setCell ⟨gb187, 1, none⟩ (.slice Ao32 y189.length co32)).heap[gb187]? = some (.cells #[.int .i64 a1, .slice Ao32 y189.length co32, u188002, .slice Ao13 y184.length co13] 51 (0, 0))) := ⟨by (with_reducible repeat (first | apply qa4 | apply qb4 | apply qc4)); refine blk_put (cs := #[.int .i64 a1, u188001, u188002, .slice Ao13 y184.length co13]) ?_ 1 _ rfl; (with_reducible repeat (first | apply qa4 | apply qb4 | apply qc4)); exact BK187.out⟩
                  have n5_ : Aside0 (Below w.heap.size w (w31.setCell ⟨gb187, 1, none⟩ (.slice Ao32 y189.length co32))) := ⟨by repeat (first | (with_reducible first | exact HB.out | apply qg4 | apply qh4 | apply qi4 | refine qj4 ?_ GE176.out | refine qj4 ?_ GE187.out) | exact HB.out)⟩
                  (try clear HO_188002)
                  (try clear HO_188003)
                  (try clear HO191)
                  (try clear BK176)
                  (try clear BK187)
                  (try clear HB)
                  generalize (w31.setCell ⟨gb187, 1, none⟩ (.slice Ao32 y189.length co32)) = w34 at n0_ n1_ n2_ n3_ n4_ n5_ ⊢
                  have HO_188002 := n0_
                  have HO_188003 := n1_
                  have HO191 := n2_
                  have BK176 := n3_
                  have BK187 := n4_
                  have HB := n5_
                  clear n0_ n1_ n2_ n3_ n4_ n5_
                  have n0_ := qk4 (qf4 HO_188002.out)
                  have n1_ := qk4 (qf4 HO_188003.out)
                  have n2_ := qk4 (qf4 HO191.out)
                  have n3_ := qk4 (qb4 BK176.out)
                  have n4_ := qk4 (qb4 BK187.out)
                  have n5_ := qk4 (qi4 HB.out)
                  clear HO_188002
                  clear HO_188003
                  clear HO191
                  clear BK176
                  clear BK187
                  clear HB
                  have HO_188002 := n0_
                  have HO_188003 := n1_
                  have HO191 := n2_
                  have BK176 := n3_
                  have BK187 := n4_
                  have HB := n5_
                  clear n0_ n1_ n2_ n3_ n4_ n5_
                  refine start_ (n := 14) (S := fun w' => w'.cell? ⟨gb187, 0, none⟩ = some (.int .i64 a1) ∧ w'.cell? ⟨gb187, 1, none⟩ = some (.slice Ao32 y189.length co32) ∧ w'.cell? ⟨gb187, 2, none⟩ = some (u188002) ∧ w'.cell? ⟨gb187, 3, none⟩ = some (.slice Ao13 y184.length co13)) (ds := [13]) #[false, false, false, false, false, false, false, false, false, false, false, false, false, false] (by kernel_rfl) rfl rfl ⟨(blk_cell BK187.out 0).trans rfl, (blk_cell BK187.out 1).trans rfl, (blk_cell BK187.out 2).trans rfl, (blk_cell BK187.out 3).trans rfl⟩ (fun hHeld => ?_); refine with_tabW spec_l03Sign.tab8 spec_l03Sign.bits8 (fun HT_ HW_ => ?_)
                  generalize w34.drew = w35 at HO_188002 HO_188003 HO191 BK176 BK187 HB hHeld ⊢
                  refine pure_ (i := 0) (N := some 39) (v := ?_) (a' := ?_) #[true, false, false, false, false, false, false, false, false, false, false, false, false, false] rfl rfl (any_of HT_.out (by kernel_rfl)) (fun _ _ _ h => h) (Or.inl ⟨by rfl, ?_⟩) ?_ ?_
                  rotate_left
                  · intro w'
                    go_simp
                    with_reducible rfl
                  rotate_left
                  · simp only [Act.put, List.setIfInBounds_toArray, List.set_cons_zero, List.set_cons_succ, i64_w, i32_w]
                    rfl
                  refine pure_ (i := 2) (N := some 41) (v := ?_) (a' := ?_) #[true, false, true, false, false, false, false, false, false, false, false, false, false, false] rfl rfl (any_of HT_.out (by kernel_rfl)) (fun _ _ _ h => h) (Or.inl ⟨by rfl, ?_⟩) ?_ ?_
                  rotate_left
                  · intro w'
                    go_simp
                    with_reducible rfl
                  rotate_left
                  · simp only [Act.put, List.setIfInBounds_toArray, List.set_cons_zero, List.set_cons_succ, i64_w, i32_w]
                    rfl
                  refine pure_ (i := 3) (N := some 42) (v := ?_) (a' := ?_) #[true, false, true, true, false, false, false, false, false, false, false, false, false, false] rfl rfl (any_of HT_.out (by kernel_rfl)) (fun _ _ _ h => h) (Or.inl ⟨by rfl, ?_⟩) ?_ ?_
                  rotate_left
                  · intro w'
                    go_simp
                    with_reducible rfl
                  rotate_left
                  · simp only [Act.put, List.setIfInBounds_toArray, List.set_cons_zero, List.set_cons_succ, i64_w, i32_w]
                    rfl
                  refine pure_ (i := 4) (N := some 43) (v := ?_) (a' := ?_) #[true, false, true, true, true, false, false, false, false, false, false, false, false, false] rfl rfl (any_of HT_.out (by kernel_rfl)) (fun _ _ _ h => h) (Or.inl ⟨by rfl, ?_⟩) ?_ ?_
                  rotate_left
                  · intro w'
                    go_simp
                    with_reducible rfl
                  rotate_left
                  · simp only [Act.put, List.setIfInBounds_toArray, List.set_cons_zero, List.set_cons_succ, i64_w, i32_w]
                    rfl
                  refine pure_ (i := 5) (N := some 44) (v := ?_) (a' := ?_) #[true, false, true, true, true, true, false, false, false, false, false, false, false, false] rfl rfl (any_of HT_.out (by kernel_rfl)) (fun _ _ _ h => h) (Or.inl ⟨by rfl, ?_⟩) ?_ ?_
                  rotate_left
                  · intro w'
                    go_simp
                    with_reducible rfl
                  rotate_left
                  · simp only [Act.put, List.setIfInBounds_toArray, List.set_cons_zero, List.set_cons_succ, i64_w, i32_w]
                    rfl
                  refine pure_ (i := 6) (N := some 45) (v := ?_) (a' := ?_) #[true, false, true, true, true, true, true, false, false, false, false, false, false, false] rfl rfl (any_of HT_.out (by kernel_rfl)) (fun _ _ _ h => h) (Or.inl ⟨by rfl, ?_⟩) ?_ ?_
                  rotate_left
                  · intro w'
                    go_simp
                    with_reducible rfl
                  rotate_left
                  · simp only [Act.put, List.setIfInBounds_toArray, List.set_cons_zero, List.set_cons_succ, i64_w, i32_w]
                    rfl
                  refine take_ (i := 1) (N := some 40) (v := ?_) (a' := ?_) #[true, true, true, true, true, true, true, false, false, false, false, false, false, false] rfl rfl (take_ofW HT_.out HW_.out (by kernel_rfl)) (fun _ _ _ h => h) (Or.inl ⟨by rfl, ?_⟩) hHeld ?_ ?_
                  rotate_left
                  · rintro w' ⟨s0, s1, s2, s3⟩
                    go_simp
                    with_reducible rfl
                  rotate_left
                  · simp only [Act.put, List.setIfInBounds_toArray, List.set_cons_zero, List.set_cons_succ, i64_w, i32_w]
                    rfl
                  refine one_ (i := 7) (N := some 46) #[true, true, true, true, true, true, true, true, false, false, false, false, false, false] rfl rfl (one_of HT_.out (by kernel_rfl)) (by decide) (fun K hK => ?_)
                  refine goes_ Tryd.func62 (by kernel_rfl) rfl #[.string a0, .int .i64 a1, .int .i64 x9_1, .int .i64 (wrap64 (1 - (((bt t177 x9_1) - 48) % 256)))] (by rfl) rfl rfl (by (try simp only [List.map_toArray, List.map_cons, List.map_nil]); first | done | rfl | (simp only [List.length_drop, List.length_take]; rfl)) ?_
                  with_reducible refine (spec_l03Secret.calls a0 a1 x9_1 (wrap64 (1 - (((bt t177 x9_1) - 48) % 256))) t192 _ A25.out).mono ?_
                  rintro e w36 ⟨rfl, hb⟩
                  refine ⟨_, rfl, ?_⟩
                  have n0_ := qk4 (Kd.R_below (by (with_reducible repeat (first | apply qd4 | apply qe4 | apply qf4)); exact HO_188002.out) hb)
                  have n1_ := qk4 (Kd.R_below (by (with_reducible repeat (first | apply qd4 | apply qe4 | apply qf4)); exact HO_188003.out) hb)
                  have n2_ := qk4 (Kd.R_below (by (with_reducible repeat (first | apply qd4 | apply qe4 | apply qf4)); exact HO191.out) hb)
                  have n3_ := qk4 (blk_below (g := gb176) (o := .cells #[.int .i64 0, .slice none 0 0, .slice none 0 0, .slice none 0 0] 51 (0, 0)) (by (with_reducible repeat (first | apply qa4 | apply qb4 | apply qc4)); exact BK176.out) hb)
                  have n4_ := qk4 (blk_below (g := gb187) (o := .cells #[.int .i64 a1, .slice Ao32 y189.length co32, u188002, .slice Ao13 y184.length co13] 51 (0, 0)) (by (with_reducible repeat (first | apply qa4 | apply qb4 | apply qc4)); exact BK187.out) hb)
                  have n5_ := qk4 (below_step (by repeat (first | (with_reducible first | exact HB.out | apply qg4 | apply qh4 | apply qi4 | refine qj4 ?_ GE176.out | refine qj4 ?_ GE187.out) | exact HB.out)) hb)
                  clear HO_188002
                  clear HO_188003
                  clear HO191
                  clear BK176
                  clear BK187
                  clear HB
                  have HO_188002 := n0_
                  have HO_188003 := n1_
                  have HO191 := n2_
                  have BK176 := n3_
                  have BK187 := n4_
                  have HB := n5_
                  clear n0_ n1_ n2_ n3_ n4_ n5_
                  (try clear hb)
                  (try clear hb2)
                  (try clear hk)
                  (try clear hi)
                  refine hK.out _ _ ⟨(blk_cell BK187.out 0).trans rfl, (blk_cell BK187.out 1).trans rfl, (blk_cell BK187.out 2).trans rfl, (blk_cell BK187.out 3).trans rfl⟩ (fun hHeld => ?_)
                  clear hK K
                  refine norm_ (a' := ?_) ?_ ?_
                  rotate_left
                  · show Act.put _ (some 46) _ = _
                    simp only [Act.put, List.setIfInBounds_toArray, List.set_cons_zero, List.set_cons_succ, i64_w, i32_w]
                    rfl
                  refine one_ (i := 8) (N := some 47) #[true, true, true, true, true, true, true, true, true, false, false, false, false, false] rfl rfl (one_of HT_.out (by kernel_rfl)) (by decide) (fun K hK => ?_)
                  refine R_bytes_step _ 5 (by rfl) (N := 47) rfl 9 22 _ rfl t192 rfl Tryd.underlying9 Tryd.underlying22 Tryd.underlying5 (ok := fun _ => True) trivial (of_decide_eq_true (by first | (with_reducible assumption) | assumption)) (Below.refl _ _) (Nat.le_refl _) ?_
                  intro v194 w37 ho38 hb hg_ hnew_
                  clear hg_ hnew_
                  (first | rw [← Ny193.out] at ho38 | (simp only [Int.reduceToNat] at ho38; rw [← Ny193.out] at ho38))
                  have n0_ := qk4 (Kd.R_below (by (with_reducible repeat (first | apply qd4 | apply qe4 | apply qf4)); exact HO_188002.out) hb)
                  have n1_ := qk4 (Kd.R_below (by (with_reducible repeat (first | apply qd4 | apply qe4 | apply qf4)); exact HO_188003.out) hb)
                  have n2_ := qk4 (Kd.R_below (by (with_reducible repeat (first | apply qd4 | apply qe4 | apply qf4)); exact HO191.out) hb)
                  have n3_ := qk4 (Kd.R_lower ho38 (below_size (by repeat (first | (with_reducible first | exact HB.out | apply qg4 | apply qh4 | apply qi4 | refine qj4 ?_ GE176.out | refine qj4 ?_ GE187.out) | exact HB.out))))
                  have n4_ := qk4 (blk_below (g := gb176) (o := .cells #[.int .i64 0, .slice none 0 0, .slice none 0 0, .slice none 0 0] 51 (0, 0)) (by (with_reducible repeat (first | apply qa4 | apply qb4 | apply qc4)); exact BK176.out) hb)
                  have n5_ := qk4 (blk_below (g := gb187) (o := .cells #[.int .i64 a1, .slice Ao32 y189.length co32, u188002, .slice Ao13 y184.length co13] 51 (0, 0)) (by (with_reducible repeat (first | apply qa4 | apply qb4 | apply qc4)); exact BK187.out) hb)
                  have n6_ := qk4 (below_step (by repeat (first | (with_reducible first | exact HB.out | apply qg4 | apply qh4 | apply qi4 | refine qj4 ?_ GE176.out | refine qj4 ?_ GE187.out) | exact HB.out)) hb)
                  clear HO_188002
                  clear HO_188003
                  clear HO191
                  clear BK176
                  clear BK187
                  clear HB
                  have HO_188002 := n0_
                  have HO_188003 := n1_
                  have HO191 := n2_
                  have HO195 := n3_
                  have BK176 := n4_
                  have BK187 := n5_
                  have HB := n6_
                  clear n0_ n1_ n2_ n3_ n4_ n5_ n6_
                  clear hb ho38
                  obtain ⟨Ao39, co39, eo39⟩ := Kd.R_slice HO195.out
                  (first | subst eo39 | (injection eo39 with f1_ f2_ f3_; have f4_ := f1_.symm; have f5_ := f3_.symm; clear f1_ f2_ f3_; subst f4_; subst f5_))
                  refine hK.out _ _ ⟨(blk_cell BK187.out 0).trans rfl, (blk_cell BK187.out 1).trans rfl, (blk_cell BK187.out 2).trans rfl, (blk_cell BK187.out 3).trans rfl⟩ (fun hHeld => ?_)
                  clear hK K
                  refine norm_ (a' := ?_) ?_ ?_
                  rotate_left
                  · show Act.put _ (some 47) _ = _
                    simp only [Act.put, List.setIfInBounds_toArray, List.set_cons_zero, List.set_cons_succ, i64_w, i32_w]
                    rfl
                  refine one_ (i := 9) (N := some 48) #[true, true, true, true, true, true, true, true, true, true, false, false, false, false] rfl rfl (one_of HT_.out (by kernel_rfl)) (by decide) (fun K hK => ?_)
                  refine goes_ Tryd.func52 (by kernel_rfl) rfl #[.slice Ao39 y193.length co39] (by rfl) rfl rfl (by (try simp only [List.map_toArray, List.map_cons, List.map_nil]); first | done | rfl | (simp only [List.length_drop, List.length_take]; rfl)) ?_
                  with_reducible refine (spec_l01Hash.calls _ _ y193 t196 _ ?side1 ?side2 A27.out).mono ?_
                  (case side1 => repeat (first | exact (Kd.R_reads' HO195.out).2.2 | (with_reducible refine Kd.C_alloc ?_ _) | (with_reducible refine Kd.C_drewN ?_ _) | (with_reducible refine Kd.C_drew ?_)))
                  (case side2 => exact (Kd.R_reads' HO195.out).2.1)
                  rintro e w40 ⟨rfl, hb⟩
                  refine ⟨_, rfl, ?_⟩
                  have n0_ := qk4 (Kd.R_below (by (with_reducible repeat (first | apply qd4 | apply qe4 | apply qf4)); exact HO_188002.out) hb)
                  have n1_ := qk4 (Kd.R_below (by (with_reducible repeat (first | apply qd4 | apply qe4 | apply qf4)); exact HO_188003.out) hb)
                  have n2_ := qk4 (Kd.R_below (by (with_reducible repeat (first | apply qd4 | apply qe4 | apply qf4)); exact HO191.out) hb)
                  have n3_ := qk4 (Kd.R_below (by (with_reducible repeat (first | apply qd4 | apply qe4 | apply qf4)); exact HO195.out) hb)
                  have n4_ := qk4 (blk_below (g := gb176) (o := .cells #[.int .i64 0, .slice none 0 0, .slice none 0 0, .slice none 0 0] 51 (0, 0)) (by (with_reducible repeat (first | apply qa4 | apply qb4 | apply qc4)); exact BK176.out) hb)
                  have n5_ := qk4 (blk_below (g := gb187) (o := .cells #[.int .i64 a1, .slice Ao32 y189.length co32, u188002, .slice Ao13 y184.length co13] 51 (0, 0)) (by (with_reducible repeat (first | apply qa4 | apply qb4 | apply qc4)); exact BK187.out) hb)
                  have n6_ := qk4 (below_step (by repeat (first | (with_reducible first | exact HB.out | apply qg4 | apply qh4 | apply qi4 | refine qj4 ?_ GE176.out | refine qj4 ?_ GE187.out) | exact HB.out)) hb)
                  clear HO_188002
                  clear HO_188003
                  clear HO191
                  clear HO195
                  clear BK176
                  clear BK187
                  clear HB
                  have HO_188002 := n0_
                  have HO_188003 := n1_
                  have HO191 := n2_
                  have HO195 := n3_
                  have BK176 := n4_
                  have BK187 := n5_
                  have HB := n6_
                  clear n0_ n1_ n2_ n3_ n4_ n5_ n6_
                  (try clear hb)
                  (try clear hb2)
                  (try clear hk)
                  (try clear hi)
                  refine hK.out _ _ ⟨(blk_cell BK187.out 0).trans rfl, (blk_cell BK187.out 1).trans rfl, (blk_cell BK187.out 2).trans rfl, (blk_cell BK187.out 3).trans rfl⟩ (fun hHeld => ?_)
                  clear hK K
                  refine norm_ (a' := ?_) ?_ ?_
                  rotate_left
                  · show Act.put _ (some 48) _ = _
                    simp only [Act.put, List.setIfInBounds_toArray, List.set_cons_zero, List.set_cons_succ, i64_w, i32_w]
                    rfl
                  refine one_ (i := 10) (N := some 49) #[true, true, true, true, true, true, true, true, true, true, true, false, false, false] rfl rfl (one_of HT_.out (by kernel_rfl)) (by decide) (fun K hK => ?_)
                  refine value_ (w1 := ?_) (v := ?_) (by rfl) rfl ?_ ?_
                  rotate_left 2
                  · go_simp
                    constructor
                    · rfl
                    · rfl
                  refine hK.out _ _ ⟨(blk_cell (qc4 BK187.out _) 0).trans rfl, (blk_cell (qc4 BK187.out _) 1).trans rfl, (blk_cell (qc4 BK187.out _) 2).trans rfl, (blk_cell (qc4 BK187.out _) 3).trans rfl⟩ (fun hHeld => ?_)
                  clear hK K
                  refine norm_ (a' := ?_) ?_ ?_
                  rotate_left
                  · show Act.put _ (some 49) _ = _
                    simp only [Act.put, List.setIfInBounds_toArray, List.set_cons_zero, List.set_cons_succ, i64_w, i32_w]
                    rfl
                  refine one_ (i := 11) (N := some 50) #[true, true, true, true, true, true, true, true, true, true, true, true, false, false] rfl rfl (one_of HT_.out (by kernel_rfl)) (by decide) (fun K hK => ?_)
                  refine Kd.R_append_step Kd.string (w0 := w) w.heap.size (by rfl) (.tmp 40) (.tmp 49) 46 9 (.string ⟨#[]⟩) 16 rfl Tryd.underlying46 info9 rfl (by decide) (by omega) u188002 x188002_1 t196 [.string t196] (fun k_ => some k_ ≠ (.slice Ao13 y184.length co13 : Value).ownBlock ∧ some k_ ≠ (.slice Ao32 y189.length co32 : Value).ownBlock) (fun _ => False) rfl rfl ?aP (fun _ hk => hk.elim) ?aF ?aO ?aB ?aS ?aL ?_
                  (case aP => exact rfl)
                  (case aB => exact (by repeat (first | (with_reducible first | exact HB.out | apply qg4 | apply qh4 | apply qi4 | refine qj4 ?_ GE176.out | refine qj4 ?_ GE187.out) | exact HB.out)))
                  (case aF => exact (fun k_ hk => ⟨Kd.fresh' (Kd.R_lt (by (with_reducible repeat (first | apply qd4 | apply qe4 | apply qf4)); exact HO_188003.out)) k_ hk, Kd.fresh' (Kd.R_lt (by (with_reducible repeat (first | apply qd4 | apply qe4 | apply qf4)); exact HO191.out)) k_ hk⟩))
                  (case aO => exact (by (with_reducible repeat (first | apply qd4 | apply qe4 | apply qf4)); exact HO_188002.out))
                  (case aS => exact (below_size (by repeat (first | (with_reducible first | exact HB.out | apply qg4 | apply qh4 | apply qi4 | refine qj4 ?_ GE176.out | refine qj4 ?_ GE187.out) | exact HB.out))))
                  (case aL => have := LMc28.out; omega)
                  intro v198 w41 ho hb hg hat
                  rw [← Ny197.out] at ho
                  have n0_ := qk4 (Kd.R_after (ok := (fun k_ => some k_ ≠ (.slice Ao32 y189.length co32 : Value).ownBlock)) (by (with_reducible repeat (first | apply qd4 | apply qe4 | apply qf4)); exact qm4 HO_188003.out (fun _ hk => ⟨hk.2, hk.1⟩)) hg hat)
                  have n1_ := qk4 (blk_grown (g := gb176) (o := .cells #[.int .i64 0, .slice none 0 0, .slice none 0 0, .slice none 0 0] 51 (0, 0)) (by (with_reducible repeat (first | apply qa4 | apply qb4 | apply qc4)); exact BK176.out) hg (Kd.R_ne HO_188002.out BK176.out (by decide)))
                  have n2_ := qk4 (blk_grown (g := gb187) (o := .cells #[.int .i64 a1, .slice Ao32 y189.length co32, u188002, .slice Ao13 y184.length co13] 51 (0, 0)) (by (with_reducible repeat (first | apply qa4 | apply qb4 | apply qc4)); exact BK187.out) hg (Kd.R_ne HO_188002.out BK187.out (by decide)))
                  have n3_ := qk4 (Kd.R_after (ok := (fun k_ => some k_ ≠ (.slice Ao13 y184.length co13 : Value).ownBlock)) (by (with_reducible repeat (first | apply qd4 | apply qe4 | apply qf4)); exact qm4 HO191.out (fun _ hk => ⟨hk.2, hk.1⟩)) hg hat)
                  have n4_ := qk4 (Kd.R_over' (by (with_reducible repeat (first | apply qd4 | apply qe4 | apply qf4)); exact HO195.out) (Kd.R_typed (by (with_reducible repeat (first | apply qd4 | apply qe4 | apply qf4)); exact HO_188002.out)) (by decide) hg)
                  have n5_ := qk4 (hb)
                  have n6_ := qk4 (ho)
                  clear HO_188003
                  clear BK176
                  clear BK187
                  clear HO191
                  clear HO195
                  clear HB
                  clear HO_188002
                  have HO_188003 := n0_
                  have BK176 := n1_
                  have BK187 := n2_
                  have HO191 := n3_
                  have HO195 := n4_
                  have HB := n5_
                  have HO199 := n6_
                  clear n0_ n1_ n2_ n3_ n4_ n5_ n6_
                  clear ho hb hg hat
                  obtain ⟨Ao42, co42, eo42⟩ := Kd.R_slice HO199.out
                  (first | subst eo42 | (injection eo42 with f1_ f2_ f3_; have f4_ := f1_.symm; have f5_ := f3_.symm; clear f1_ f2_ f3_; subst f4_; subst f5_))
                  refine hK.out _ _ ⟨(blk_cell BK187.out 0).trans rfl, (blk_cell BK187.out 1).trans rfl, (blk_cell BK187.out 2).trans rfl, (blk_cell BK187.out 3).trans rfl⟩ (fun hHeld => ?_)
                  clear hK K
                  refine norm_ (a' := ?_) ?_ ?_
                  rotate_left
                  · show Act.put _ (some 50) _ = _
                    simp only [Act.put, List.setIfInBounds_toArray, List.set_cons_zero, List.set_cons_succ, i64_w, i32_w]
                    rfl
                  refine pure_ (i := 12) (N := some 51) (v := ?_) (a' := ?_) #[true, true, true, true, true, true, true, true, true, true, true, true, true, false] rfl rfl (any_of HT_.out (by kernel_rfl)) (fun _ _ _ h => h) (Or.inl ⟨by rfl, ?_⟩) ?_ ?_
                  rotate_left
                  · intro w'
                    go_simp
                    with_reducible rfl
                  rotate_left
                  · simp only [Act.put, List.setIfInBounds_toArray, List.set_cons_zero, List.set_cons_succ, i64_w, i32_w]
                    rfl
                  refine last_ (i := 13) (N := none) #[true, true, true, true, true, true, true, true, true, true, true, true, true, true] rfl rfl (one_of HT_.out (by kernel_rfl)) (by decide) (fun K hK => ?_)
                  have hs43 : w41.cell? ⟨gb187, 2, none⟩ = some (u188002) := (blk_cell BK187.out 2).trans rfl
                  have hfs43 := blk_frozen BK187.out 2
                  have hns43_0 := NB176_187.out
                  have hms43_0 := NB187_176.out
                  refine skip_ (w1 := ?_) (by rfl) rfl ?_ ?_
                  rotate_left
                  · go_simp
                    rfl
                  refine hK.out _ _ ?_
                  clear hK K
                  refine done_ (done_of HT_.out (by kernel_rfl)) ?_
                  try go_wp2
                  go_roundg k1
                  case measure => have := HK1.out; omega
                  case rel => exact ⟨(wrap64 (x9_1 + 1)), (y189), (y197), (.slice Ao32 y189.length co32), (.slice Ao42 y197.length co42), (by first | rfl | (simp; done) | (simp [*]; done)), H', ⟨by have := HK1.out; omega⟩, ⟨by (with_reducible repeat (first | apply qd4 | apply qe4 | apply qf4)); exact qm4 (ql4 (p := ⟨gb187, 2, none⟩) (Kd.R_types HO191.out BK187.out (by decide)) (fun _ hk => hk.2) (.slice Ao42 y197.length co42)) (fun _ hk => ⟨hk.1.2, hk.1.1⟩)⟩, ⟨by (with_reducible repeat (first | apply qd4 | apply qe4 | apply qf4)); exact qm4 (ql4 (p := ⟨gb187, 2, none⟩) (Kd.R_types HO199.out BK187.out (by decide)) (fun _ hk => hk.2) (.slice Ao42 y197.length co42)) (fun _ hk => ⟨hk.1.2, hk.1.1⟩)⟩, ⟨by (with_reducible repeat (first | apply qd4 | apply qe4 | apply qf4)); exact qm4 (ql4 (p := ⟨gb187, 2, none⟩) (Kd.R_types HO_188003.out BK187.out (by decide)) (fun _ hk => hk.2) (.slice Ao42 y197.length co42)) (fun _ hk => ⟨hk.1.1, hk.1.2⟩)⟩, ⟨by (with_reducible repeat (first | apply qa4 | apply qb4 | apply qc4)); refine blk_far ?_ NB176_187.out _; (with_reducible repeat (first | apply qa4 | apply qb4 | apply qc4)); exact BK176.out⟩, ⟨by (with_reducible repeat (first | apply qa4 | apply qb4 | apply qc4)); refine blk_put (cs := #[.int .i64 a1, .slice Ao32 y189.length co32, u188002, .slice Ao13 y184.length co13]) ?_ 2 _ rfl; (with_reducible repeat (first | apply qa4 | apply qb4 | apply qc4)); exact BK187.out⟩, ⟨by repeat (first | (with_reducible first | exact HB.out | apply qg4 | apply qh4 | apply qi4 | refine qj4 ?_ GE176.out | refine qj4 ?_ GE187.out) | exact HB.out)⟩⟩
                · rw [if_neg c28] at H
                  exact absurd H (by simp)
              · rw [if_neg c26] at H
                exact absurd H (by simp)
            · rw [if_neg c24] at H
              exact absurd H (by simp)
          · rw [if_neg c21] at H
            exact absurd H (by simp)
        · rw [if_neg c20] at H
          exact absurd H (by simp)
      · rw [if_neg c19] at H
        have c19b0 : decide (x9_1 < 32) = false := decide_eq_false c19
        clear c19
        replace H := Option.bind_eq_some_iff.mp H
        obtain ⟨t200, A440, H⟩ := H
        replace H : (spec_l03Sign.l1 k1 a1 t200 a1 x188001_1 x188002_1 y184) = some (r1, r2, r3, r4) := H
        have A44 := qk4 A440
        clear A440
        have H' := qk4 H
        clear H
        go_wp2_with (first | ((with_reducible refine gate_callee (f := 80) rfl ?_); refine goesL_ (some 54) rfl rfl Tryd.func80 (by kernel_rfl) rfl #[.string a0] rfl (by (try simp only [List.map_toArray, List.map_cons, List.map_nil]); first | done | rfl | (simp only [List.length_drop, List.length_take]; rfl)) ?_; (with_reducible refine (spec_l03Keys.calls k1 a0 t200 _ A44.out).mono ?_); rintro e w45 ⟨v201, rfl, ho0, hb⟩; refine ⟨_, rfl, ?_⟩; have n0_ := qk4 (Kd.R_elder' (by (with_reducible repeat (first | apply qd4 | apply qe4 | apply qf4)); exact HO_188001.out) (Kd.R_base ho0) hb); have n1_ := qk4 (Kd.R_elder' (by (with_reducible repeat (first | apply qd4 | apply qe4 | apply qf4)); exact HO_188002.out) (Kd.R_base ho0) hb); have n2_ := qk4 (Kd.R_elder' (by (with_reducible repeat (first | apply qd4 | apply qe4 | apply qf4)); exact HO_188003.out) (Kd.R_base ho0) hb); have n3_ := qk4 (Kd.R_lower (Kd.R_new' (Kd.R_new' (Kd.R_new' ho0 (Kd.R_lt (by (with_reducible repeat (first | apply qd4 | apply qe4 | apply qf4)); exact HO_188001.out))) (Kd.R_lt (by (with_reducible repeat (first | apply qd4 | apply qe4 | apply qf4)); exact HO_188002.out))) (Kd.R_lt (by (with_reducible repeat (first | apply qd4 | apply qe4 | apply qf4)); exact HO_188003.out))) (below_size (by repeat (first | (with_reducible first | exact HB.out | apply qg4 | apply qh4 | apply qi4 | refine qj4 ?_ GE176.out | refine qj4 ?_ GE187.out) | exact HB.out)))); have n4_ := qk4 (blk_below (g := gb176) (o := .cells #[.int .i64 0, .slice none 0 0, .slice none 0 0, .slice none 0 0] 51 (0, 0)) (by (with_reducible repeat (first | apply qa4 | apply qb4 | apply qc4)); exact BK176.out) hb); have n5_ := qk4 (blk_below (g := gb187) (o := .cells #[.int .i64 a1, u188001, u188002, .slice Ao13 y184.length co13] 51 (0, 0)) (by (with_reducible repeat (first | apply qa4 | apply qb4 | apply qc4)); exact BK187.out) hb); have n6_ := qk4 (below_step (by repeat (first | (with_reducible first | exact HB.out | apply qg4 | apply qh4 | apply qi4 | refine qj4 ?_ GE176.out | refine qj4 ?_ GE187.out) | exact HB.out)) hb); clear HO_188001; clear HO_188002; clear HO_188003; clear BK176; clear BK187; clear HB; have HO_188001 := n0_; have HO_188002 := n1_; have HO_188003 := n2_; have HO202 := n3_; have BK176 := n4_; have BK187 := n5_; have HB := n6_; clear n0_ n1_ n2_ n3_ n4_ n5_ n6_; (try clear hb); (try clear hb2); (try clear hk); (try clear hi); (try clear ho0)))
        go_loopg [11, 12] k1 (fun kq v11 v12 w' => ∃ (x11_2 : Int) (x12_2 : List ByteArray) (x188003_2 : List ByteArray) (u188003 : Value), v11 = .int .i64 x11_2 ∧ Aside0 (spec_l03Sign.l1 kq x11_2 x12_2 a1 x188001_1 x188002_1 x188003_2 = some (r1, r2, r3, r4)) ∧ Aside0 (kq ≤ k1) ∧ Aside0 (Kd.R Kd.string 9 w' w.heap.size (fun k_ => some k_ ≠ (u188001 : Value).ownBlock ∧ some k_ ≠ (u188002 : Value).ownBlock ∧ some k_ ≠ (u188003 : Value).ownBlock) v12 x12_2) ∧ Aside0 (Kd.R Kd.string 9 w' w.heap.size (fun k_ => some k_ ≠ (v12 : Value).ownBlock ∧ some k_ ≠ (u188002 : Value).ownBlock ∧ some k_ ≠ (u188003 : Value).ownBlock) u188001 x188001_1) ∧ Aside0 (Kd.R Kd.string 9 w' w.heap.size (fun k_ => some k_ ≠ (v12 : Value).ownBlock ∧ some k_ ≠ (u188001 : Value).ownBlock ∧ some k_ ≠ (u188003 : Value).ownBlock) u188002 x188002_1) ∧ Aside0 (Kd.R Kd.string 9 w' w.heap.size (fun k_ => some k_ ≠ (v12 : Value).ownBlock ∧ some k_ ≠ (u188001 : Value).ownBlock ∧ some k_ ≠ (u188002 : Value).ownBlock) u188003 x188003_2) ∧ Aside0 (w'.heap[gb176]? = some (.cells #[.int .i64 0, (.slice none 0 0), (.slice none 0 0), (.slice none 0 0)] 51 (0, 0))) ∧ Aside0 (w'.heap[gb187]? = some (.cells #[.int .i64 a1, u188001, u188002, u188003] 51 (0, 0))) ∧ Aside0 (Below w.heap.size w w'))
        case atStart => exact ⟨(a1), (t200), (y184), (.slice Ao13 y184.length co13), (by first | rfl | (simp; done) | (simp [*]; done)), H', ⟨Nat.le_refl _⟩, ⟨by (with_reducible repeat (first | apply qd4 | apply qe4 | apply qf4)); exact qm4 HO202.out (fun _ hk => ⟨hk.1.1.2, ⟨hk.1.2, hk.2⟩⟩)⟩, ⟨by (with_reducible repeat (first | apply qd4 | apply qe4 | apply qf4)); exact qm4 HO_188001.out (fun _ hk => ⟨hk.2, ⟨hk.1.1, hk.1.2⟩⟩)⟩, ⟨by (with_reducible repeat (first | apply qd4 | apply qe4 | apply qf4)); exact qm4 HO_188002.out (fun _ hk => ⟨hk.2, ⟨hk.1.1, hk.1.2⟩⟩)⟩, ⟨by (with_reducible repeat (first | apply qd4 | apply qe4 | apply qf4)); exact qm4 HO_188003.out (fun _ hk => ⟨hk.2, ⟨hk.1.1, hk.1.2⟩⟩)⟩, ⟨by (with_reducible repeat (first | apply qa4 | apply qb4 | apply qc4)); exact BK176.out⟩, ⟨by (with_reducible repeat (first | apply qa4 | apply qb4 | apply qc4)); exact BK187.out⟩, ⟨by repeat (first | (with_reducible first | exact HB.out | apply qg4 | apply qh4 | apply qi4 | refine qj4 ?_ GE176.out | refine qj4 ?_ GE187.out) | exact HB.out)⟩⟩
        case round =>
          clear H'
          try clear c1
          try clear c2
          try clear p2
          try clear q2
          try clear hx2
          try clear c5
          try clear c6
          try clear p6
          try clear c8
          try clear c17
          try clear c19
          try clear c19b0
          try clear c20
          try clear c20b0
          try clear c21
          try clear c21b0
          try clear p22
          try clear q22
          try clear hx22
          try clear c24
          try clear c26
          try clear c26b0
          try clear c26b1
          try clear c26b2
          try clear c28
          try clear hcz18_0
          try clear hcz18_1
          try clear hcz18_2
          try clear hcz18_3
          try clear hfz18_0
          try clear hfz18_1
          try clear hfz18_2
          try clear hfz18_3
          try clear p2
          try clear p22
          try clear q22
          obtain ⟨x11_2, x12_2, x188003_2, u188003, rfl, HA, HK2, HO_12, HO_188001, HO_188002, HO_188003, BK176, BK187, HB⟩ := hrel
          cases gk with
          | zero => exact absurd HA.out (by simp [spec_l03Sign.l1])
          | succ k2 =>
            have H := HA.out
            clear HA
            simp only [spec_l03Sign.l1] at H
            by_cases c46 : (x12_2.length : Int) > 1
            · rw [if_pos c46] at H
              have c46b0 : decide (1 < (x12_2.length : Int)) = true := decide_eq_true c46
              have c46b1 : decide (1 < x12_2.length) = true := decide_eq_true (by omega)
              clear c46
              by_cases c47 : 0 ≤ (Go.bits .xor .i64 x11_2 1)
              · rw [if_pos c47] at H
                have c47b0 : decide (0 ≤ (Go.bits .xor .i64 x11_2 1)) = true := decide_eq_true c47
                clear c47
                by_cases c48 : (Go.bits .xor .i64 x11_2 1) < (x12_2.length : Int)
                · rw [if_pos c48] at H
                  have c48b0 : decide ((Go.bits .xor .i64 x11_2 1) < (x12_2.length : Int)) = true := decide_eq_true c48
                  clear c48
                  by_cases c49 : x188003_2.length < 8796093022208
                  · rw [if_pos c49] at H
                    have LMc49 := qk4 c49
                    clear c49
                    obtain ⟨y204, hy204⟩ : ∃ y_ : List ByteArray, y_ = (x188003_2 ++ [rdOf ByteArray.empty x12_2 (Go.bits .xor .i64 x11_2 1)]) := ⟨_, rfl⟩
                    replace H : ((spec_l03Level.f k2 x12_2).bind fun t207 => (spec_l03Sign.l1 k2 (wrap64 (Int.tdiv x11_2 2)) t207 a1 x188001_1 x188002_1 y204)) = some (r1, r2, r3, r4) := by first | (rw [hy204]; with_reducible exact H) | (have H2_ := (Option.bind_some _ _).symm.trans H; rw [hy204]; with_reducible exact H2_) | (have H2_ := (Option.bind_some _ _).symm.trans H; with_reducible exact H2_) | with_reducible exact H | (rw [hy204]; exact H) | exact H
                    have Ny204 := qk4 hy204
                    clear hy204
                    replace H := Option.bind_eq_some_iff.mp H
                    obtain ⟨t207, A500, H⟩ := H
                    replace H : (spec_l03Sign.l1 k2 (wrap64 (Int.tdiv x11_2 2)) t207 a1 x188001_1 x188002_1 y204) = some (r1, r2, r3, r4) := H
                    have A50 := qk4 A500
                    clear A500
                    have H' := qk4 H
                    clear H
                    obtain ⟨Ao51, co51, eo51⟩ := Kd.R_slice HO_12.out
                    subst eo51
                    try go_wp2
                    have n0_ := qk4 (qf4 HO_12.out)
                    have n1_ := qk4 (qf4 HO_188001.out)
                    have n2_ := qk4 (qf4 HO_188002.out)
                    have n3_ := qk4 (qf4 HO_188003.out)
                    have n4_ := qk4 (qb4 BK176.out)
                    have n5_ := qk4 (qb4 BK187.out)
                    have n6_ := qk4 (qi4 HB.out)
                    clear HO_12
                    clear HO_188001
                    clear HO_188002
                    clear HO_188003
                    clear BK176
                    clear BK187
                    clear HB
                    have HO_12 := n0_
                    have HO_188001 := n1_
                    have HO_188002 := n2_
                    have HO_188003 := n3_
                    have BK176 := n4_
                    have BK187 := n5_
                    have HB := n6_
                    clear n0_ n1_ n2_ n3_ n4_ n5_ n6_
                    have p203 : 0 ≤ ((Go.bits .xor .i64 x11_2 1) : Int) := of_decide_eq_true (by first | (with_reducible assumption) | assumption)
                    have q203 : (Go.bits .xor .i64 x11_2 1) < (x12_2.length : Int) := of_decide_eq_true (by first | (with_reducible assumption) | assumption)
                    obtain ⟨ad203, e203, hx203_0⟩ := Kd.at_string (Kd.R_reads' HO_12.out).2.2 (Go.bits .xor .i64 x11_2 1) p203 q203
                    cases e203
                    replace p203 := eq_true p203
                    replace q203 := eq_true q203
                    refine start_ (n := 11) (S := fun w' => w'.cell? ⟨gb187, 0, none⟩ = some (.int .i64 a1) ∧ w'.cell? ⟨gb187, 1, none⟩ = some (u188001) ∧ w'.cell? ⟨gb187, 2, none⟩ = some (u188002) ∧ w'.cell? ⟨gb187, 3, none⟩ = some (u188003) ∧ w'.cell? (ad203.add ((Go.bits .xor .i64 x11_2 1)).toNat) = some (.string (rdOf ByteArray.empty x12_2 (Go.bits .xor .i64 x11_2 1)))) (ds := [8, 10]) #[false, false, false, false, false, false, false, false, false, false, false] (by kernel_rfl) rfl rfl ⟨(blk_cell BK187.out 0).trans rfl, (blk_cell BK187.out 1).trans rfl, (blk_cell BK187.out 2).trans rfl, (blk_cell BK187.out 3).trans rfl, hx203_0⟩ (fun hHeld => ?_); refine with_tabW spec_l03Sign.tab13 spec_l03Sign.bits13 (fun HT_ HW_ => ?_)
                    generalize wr.drew = w52 at HO_12 HO_188001 HO_188002 HO_188003 BK176 BK187 HB hx203_0 hHeld ⊢
                    refine pure_ (i := 0) (N := some 60) (v := ?_) (a' := ?_) #[true, false, false, false, false, false, false, false, false, false, false] rfl rfl (any_of HT_.out (by kernel_rfl)) (fun _ _ _ h => h) (Or.inl ⟨by rfl, ?_⟩) ?_ ?_
                    rotate_left
                    · intro w'
                      go_simp
                      with_reducible rfl
                    rotate_left
                    · simp only [Act.put, List.setIfInBounds_toArray, List.set_cons_zero, List.set_cons_succ, i64_w, i32_w]
                      rfl
                    refine pure_ (i := 2) (N := some 62) (v := ?_) (a' := ?_) #[true, false, true, false, false, false, false, false, false, false, false] rfl rfl (any_of HT_.out (by kernel_rfl)) (fun _ _ _ h => h) (Or.inl ⟨by rfl, ?_⟩) ?_ ?_
                    rotate_left
                    · intro w'
                      go_simp
                      with_reducible rfl
                    rotate_left
                    · simp only [Act.put, List.setIfInBounds_toArray, List.set_cons_zero, List.set_cons_succ, i64_w, i32_w]
                      rfl
                    refine pure_ (i := 3) (N := some 63) (v := ?_) (a' := ?_) #[true, false, true, true, false, false, false, false, false, false, false] rfl rfl (any_of HT_.out (by kernel_rfl)) (fun _ _ _ h => h) (Or.inl ⟨by rfl, ?_⟩) ?_ ?_
                    rotate_left
                    · intro w'
                      go_simp
                      with_reducible rfl
                    rotate_left
                    · simp only [Act.put, List.setIfInBounds_toArray, List.set_cons_zero, List.set_cons_succ, i64_w, i32_w]
                      rfl
                    refine pure_ (i := 4) (N := some 64) (v := ?_) (a' := ?_) #[true, false, true, true, true, false, false, false, false, false, false] rfl rfl (any_of HT_.out (by kernel_rfl)) (fun _ _ _ h => h) (Or.inl ⟨by rfl, ?_⟩) ?_ ?_
                    rotate_left
                    · intro w'
                      go_simp
                      with_reducible rfl
                    rotate_left
                    · simp only [Act.put, List.setIfInBounds_toArray, List.set_cons_zero, List.set_cons_succ, i64_w, i32_w]
                      rfl
                    refine pure_ (i := 5) (N := some 65) (v := ?_) (a' := ?_) #[true, false, true, true, true, true, false, false, false, false, false] rfl rfl (any_of HT_.out (by kernel_rfl)) (fun _ _ _ h => h) (Or.inl ⟨by rfl, ?_⟩) ?_ ?_
                    rotate_left
                    · intro w'
                      go_simp
                      with_reducible rfl
                    rotate_left
                    · simp only [Act.put, List.setIfInBounds_toArray, List.set_cons_zero, List.set_cons_succ, i64_w, i32_w]
                      rfl
                    refine take_ (i := 1) (N := some 61) (v := ?_) (a' := ?_) #[true, true, true, true, true, true, false, false, false, false, false] rfl rfl (take_ofW HT_.out HW_.out (by kernel_rfl)) (fun _ _ _ h => h) (Or.inl ⟨by rfl, ?_⟩) hHeld ?_ ?_
                    rotate_left
                    · rintro w' ⟨s0, s1, s2, s3, s4⟩
                      go_simp
                      with_reducible rfl
                    rotate_left
                    · simp only [Act.put, List.setIfInBounds_toArray, List.set_cons_zero, List.set_cons_succ, i64_w, i32_w]
                      rfl
                    refine take_ (i := 6) (N := some 66) (v := ?_) (a' := ?_) #[true, true, true, true, true, true, true, false, false, false, false] rfl rfl (take_ofW HT_.out HW_.out (by kernel_rfl)) (fun _ _ _ h => h) (Or.inl ⟨by rfl, ?_⟩) hHeld ?_ ?_
                    rotate_left
                    · rintro w' ⟨s0, s1, s2, s3, s4⟩
                      go_simp
                      with_reducible rfl
                    rotate_left
                    · simp only [Act.put, List.setIfInBounds_toArray, List.set_cons_zero, List.set_cons_succ, i64_w, i32_w]
                      rfl
                    refine one_ (i := 7) (N := some 67) #[true, true, true, true, true, true, true, true, false, false, false] rfl rfl (one_of HT_.out (by kernel_rfl)) (by decide) (fun K hK => ?_)
                    refine value_ (w1 := ?_) (v := ?_) (by rfl) rfl ?_ ?_
                    rotate_left 2
                    · go_simp
                      constructor
                      · rfl
                      · rfl
                    refine hK.out _ _ ⟨(blk_cell (qc4 BK187.out _) 0).trans rfl, (blk_cell (qc4 BK187.out _) 1).trans rfl, (blk_cell (qc4 BK187.out _) 2).trans rfl, (blk_cell (qc4 BK187.out _) 3).trans rfl, (World.cell?_alloc_lt _ _ _ (World.block_lt_of_cell? _ _ (hHeld.2.2.2.2))).trans (hHeld.2.2.2.2)⟩ (fun hHeld => ?_)
                    clear hK K
                    refine norm_ (a' := ?_) ?_ ?_
                    rotate_left
                    · show Act.put _ (some 67) _ = _
                      simp only [Act.put, List.setIfInBounds_toArray, List.set_cons_zero, List.set_cons_succ, i64_w, i32_w]
                      rfl
                    refine last_ (i := 8) (N := some 68) #[true, true, true, true, true, true, true, true, true, false, false] rfl rfl (one_of HT_.out (by kernel_rfl)) (by decide) (fun K hK => ?_)
                    refine Kd.R_append_step Kd.string (w0 := w) w.heap.size (by rfl) (.tmp 61) (.tmp 67) 46 9 (.string ⟨#[]⟩) 16 rfl Tryd.underlying46 info9 rfl (by decide) (by omega) u188003 x188003_2 (rdOf ByteArray.empty x12_2 (Go.bits .xor .i64 x11_2 1)) [.string (rdOf ByteArray.empty x12_2 (Go.bits .xor .i64 x11_2 1))] (fun k_ => some k_ ≠ (.slice (some ad203) x12_2.length co51 : Value).ownBlock ∧ some k_ ≠ (u188001 : Value).ownBlock ∧ some k_ ≠ (u188002 : Value).ownBlock) (fun _ => False) rfl rfl ?aP (fun _ hk => hk.elim) ?aF ?aO ?aB ?aS ?aL ?_
                    (case aP => exact rfl)
                    (case aB => exact (by repeat (first | (with_reducible first | exact HB.out | apply qg4 | apply qh4 | apply qi4 | refine qj4 ?_ GE176.out | refine qj4 ?_ GE187.out) | exact HB.out)))
                    (case aF => exact (fun k_ hk => ⟨Kd.fresh' (Kd.R_lt (by (with_reducible repeat (first | apply qd4 | apply qe4 | apply qf4)); exact HO_12.out)) k_ hk, Kd.fresh' (Kd.R_lt (by (with_reducible repeat (first | apply qd4 | apply qe4 | apply qf4)); exact HO_188001.out)) k_ hk, Kd.fresh' (Kd.R_lt (by (with_reducible repeat (first | apply qd4 | apply qe4 | apply qf4)); exact HO_188002.out)) k_ hk⟩))
                    (case aO => exact (by (with_reducible repeat (first | apply qd4 | apply qe4 | apply qf4)); exact HO_188003.out))
                    (case aS => exact (below_size (by repeat (first | (with_reducible first | exact HB.out | apply qg4 | apply qh4 | apply qi4 | refine qj4 ?_ GE176.out | refine qj4 ?_ GE187.out) | exact HB.out))))
                    (case aL => have := LMc49.out; omega)
                    intro v205 w53 ho hb hg hat
                    rw [← Ny204.out] at ho
                    have n0_ := qk4 (Kd.R_after (ok := (fun k_ => some k_ ≠ (u188001 : Value).ownBlock ∧ some k_ ≠ (u188002 : Value).ownBlock)) (by (with_reducible repeat (first | apply qd4 | apply qe4 | apply qf4)); exact qm4 HO_12.out (fun _ hk => ⟨⟨hk.1, hk.2.1⟩, hk.2.2⟩)) hg hat)
                    have n1_ := qk4 (Kd.R_after (ok := (fun k_ => some k_ ≠ (.slice (some ad203) x12_2.length co51 : Value).ownBlock ∧ some k_ ≠ (u188002 : Value).ownBlock)) (by (with_reducible repeat (first | apply qd4 | apply qe4 | apply qf4)); exact qm4 HO_188001.out (fun _ hk => ⟨⟨hk.1, hk.2.1⟩, hk.2.2⟩)) hg hat)
                    have n2_ := qk4 (Kd.R_after (ok := (fun k_ => some k_ ≠ (.slice (some ad203) x12_2.length co51 : Value).ownBlock ∧ some k_ ≠ (u188001 : Value).ownBlock)) (by (with_reducible repeat (first | apply qd4 | apply qe4 | apply qf4)); exact qm4 HO_188002.out (fun _ hk => ⟨⟨hk.1, hk.2.1⟩, hk.2.2⟩)) hg hat)
                    have n3_ := qk4 (blk_grown (g := gb176) (o := .cells #[.int .i64 0, .slice none 0 0, .slice none 0 0, .slice none 0 0] 51 (0, 0)) (by (with_reducible repeat (first | apply qa4 | apply qb4 | apply qc4)); exact BK176.out) hg (Kd.R_ne HO_188003.out BK176.out (by decide)))
                    have n4_ := qk4 (blk_grown (g := gb187) (o := .cells #[.int .i64 a1, u188001, u188002, u188003] 51 (0, 0)) (by (with_reducible repeat (first | apply qa4 | apply qb4 | apply qc4)); exact BK187.out) hg (Kd.R_ne HO_188003.out BK187.out (by decide)))
                    have n5_ := qk4 (hb)
                    have n6_ := qk4 (ho)
                    clear HO_12
                    clear HO_188001
                    clear HO_188002
                    clear BK176
                    clear BK187
                    clear HB
                    clear HO_188003
                    have HO_12 := n0_
                    have HO_188001 := n1_
                    have HO_188002 := n2_
                    have BK176 := n3_
                    have BK187 := n4_
                    have HB := n5_
                    have HO206 := n6_
                    clear n0_ n1_ n2_ n3_ n4_ n5_ n6_
                    clear ho hb hg hat
                    obtain ⟨Ao54, co54, eo54⟩ := Kd.R_slice HO206.out
                    (first | subst eo54 | (injection eo54 with f1_ f2_ f3_; have f4_ := f1_.symm; have f5_ := f3_.symm; clear f1_ f2_ f3_; subst f4_; subst f5_))
                    refine hK.out _ _ ?_
                    clear hK K
                    refine norm_ (a' := ?_) ?_ ?_
                    rotate_left
                    · show Act.put _ (some 68) _ = _
                      simp only [Act.put, List.setIfInBounds_toArray, List.set_cons_zero, List.set_cons_succ, i64_w, i32_w]
                      rfl
                    refine pure_ (i := 9) (N := some 69) (v := ?_) (a' := ?_) #[true, true, true, true, true, true, true, true, true, true, false] rfl rfl (any_of HT_.out (by kernel_rfl)) (fun _ _ _ h => h) (Or.inl ⟨by rfl, ?_⟩) ?_ ?_
                    rotate_left
                    · intro w'
                      go_simp
                      with_reducible rfl
                    rotate_left
                    · simp only [Act.put, List.setIfInBounds_toArray, List.set_cons_zero, List.set_cons_succ, i64_w, i32_w]
                      rfl
                    refine last_ (i := 10) (N := none) #[true, true, true, true, true, true, true, true, true, true, true] rfl rfl (one_of HT_.out (by kernel_rfl)) (by decide) (fun K hK => ?_)
                    have hs55 : w53.cell? ⟨gb187, 3, none⟩ = some (u188003) := (blk_cell BK187.out 3).trans rfl
                    have hfs55 := blk_frozen BK187.out 3
                    have hns55_0 := NB176_187.out
                    have hms55_0 := NB187_176.out
                    refine skip_ (w1 := ?_) (by rfl) rfl ?_ ?_
                    rotate_left
                    · go_simp
                      rfl
                    refine hK.out _ _ ?_
                    clear hK K
                    refine done_ (done_of HT_.out (by kernel_rfl)) ?_
                    try go_wp2_with (first | ((with_reducible refine gate_callee (f := 105) rfl ?_); refine goesL_ (some 59) rfl rfl Tryd.func105 (by kernel_rfl) rfl #[.slice (some ad203) x12_2.length co51] rfl (by (try simp only [List.map_toArray, List.map_cons, List.map_nil]); first | done | rfl | (simp only [List.length_drop, List.length_take]; rfl)) ?_; (with_reducible refine (spec_l03Level.calls k2 _ _ x12_2 t207 _ ?side1 ?side2 A50.out).mono ?_); (case side1 => refine (Kd.R_reads' (e := 9) (base := w.heap.size) (ok := fun k_ => ((some k_ ≠ (u188001 : Value).ownBlock ∧ some k_ ≠ (u188002 : Value).ownBlock) ∧ some k_ ≠ (.slice Ao54 y204.length co54 : Value).ownBlock)) (n := x12_2.length) (c := co51) ?_).2.2; exact (by (with_reducible repeat (first | apply qd4 | apply qe4 | apply qf4)); exact (qm4 (ql4 (p := ⟨gb187, 3, none⟩) (Kd.R_types HO_12.out BK187.out (by decide)) (fun _ hk => hk.2) (.slice Ao54 y204.length co54)) (fun _ h_ => h_.1)))); (case side2 => exact (Kd.R_reads' HO_12.out).2.1); rintro e w56 ⟨v208, rfl, ho0, hb⟩; refine ⟨_, rfl, ?_⟩; have n0_ := qk4 (Kd.R_elder' (by (with_reducible repeat (first | apply qd4 | apply qe4 | apply qf4)); exact (qm4 (ql4 (p := ⟨gb187, 3, none⟩) (Kd.R_types HO_12.out BK187.out (by decide)) (fun _ hk => hk.2) (.slice Ao54 y204.length co54)) (fun _ h_ => h_.1))) (Kd.R_base ho0) hb); have n1_ := qk4 (Kd.R_elder' (by (with_reducible repeat (first | apply qd4 | apply qe4 | apply qf4)); exact (qm4 (ql4 (p := ⟨gb187, 3, none⟩) (Kd.R_types HO_188001.out BK187.out (by decide)) (fun _ hk => hk.2) (.slice Ao54 y204.length co54)) (fun _ h_ => h_.1))) (Kd.R_base ho0) hb); have n2_ := qk4 (Kd.R_elder' (by (with_reducible repeat (first | apply qd4 | apply qe4 | apply qf4)); exact (qm4 (ql4 (p := ⟨gb187, 3, none⟩) (Kd.R_types HO_188002.out BK187.out (by decide)) (fun _ hk => hk.2) (.slice Ao54 y204.length co54)) (fun _ h_ => h_.1))) (Kd.R_base ho0) hb); have n3_ := qk4 (Kd.R_elder' (by (with_reducible repeat (first | apply qd4 | apply qe4 | apply qf4)); exact (qm4 (ql4 (p := ⟨gb187, 3, none⟩) (Kd.R_types HO206.out BK187.out (by decide)) (fun _ hk => hk.2) (.slice Ao54 y204.length co54)) (fun _ h_ => h_.1))) (Kd.R_base ho0) hb); have n4_ := qk4 (Kd.R_lower (Kd.R_new' (Kd.R_new' (Kd.R_new' (Kd.R_new' ho0 (Kd.R_lt (by (with_reducible repeat (first | apply qd4 | apply qe4 | apply qf4)); exact (qm4 (ql4 (p := ⟨gb187, 3, none⟩) (Kd.R_types HO_12.out BK187.out (by decide)) (fun _ hk => hk.2) (.slice Ao54 y204.length co54)) (fun _ h_ => h_.1))))) (Kd.R_lt (by (with_reducible repeat (first | apply qd4 | apply qe4 | apply qf4)); exact (qm4 (ql4 (p := ⟨gb187, 3, none⟩) (Kd.R_types HO_188001.out BK187.out (by decide)) (fun _ hk => hk.2) (.slice Ao54 y204.length co54)) (fun _ h_ => h_.1))))) (Kd.R_lt (by (with_reducible repeat (first | apply qd4 | apply qe4 | apply qf4)); exact (qm4 (ql4 (p := ⟨gb187, 3, none⟩) (Kd.R_types HO_188002.out BK187.out (by decide)) (fun _ hk => hk.2) (.slice Ao54 y204.length co54)) (fun _ h_ => h_.1))))) (Kd.R_lt (by (with_reducible repeat (first | apply qd4 | apply qe4 | apply qf4)); exact (qm4 (ql4 (p := ⟨gb187, 3, none⟩) (Kd.R_types HO206.out BK187.out (by decide)) (fun _ hk => hk.2) (.slice Ao54 y204.length co54)) (fun _ h_ => h_.1))))) (below_size (by repeat (first | (with_reducible first | exact HB.out | apply qg4 | apply qh4 | apply qi4 | refine qj4 ?_ GE176.out | refine qj4 ?_ GE187.out) | exact HB.out)))); have n5_ := qk4 (blk_below (g := gb176) (o := .cells #[.int .i64 0, .slice none 0 0, .slice none 0 0, .slice none 0 0] 51 (0, 0)) (by (with_reducible repeat (first | apply qa4 | apply qb4 | apply qc4)); refine blk_far ?_ NB176_187.out _; (with_reducible repeat (first | apply qa4 | apply qb4 | apply qc4)); exact BK176.out) hb); have n6_ := qk4 (blk_below (g := gb187) (o := .cells #[.int .i64 a1, u188001, u188002, .slice Ao54 y204.length co54] 51 (0, 0)) (by (with_reducible repeat (first | apply qa4 | apply qb4 | apply qc4)); refine blk_put (cs := #[.int .i64 a1, u188001, u188002, u188003]) ?_ 3 _ rfl; (with_reducible repeat (first | apply qa4 | apply qb4 | apply qc4)); exact BK187.out) hb); have n7_ := qk4 (below_step (by repeat (first | (with_reducible first | exact HB.out | apply qg4 | apply qh4 | apply qi4 | refine qj4 ?_ GE176.out | refine qj4 ?_ GE187.out) | exact HB.out)) hb); clear HO_12; clear HO_188001; clear HO_188002; clear HO206; clear BK176; clear BK187; clear HB; have HO_12 := n0_; have HO_188001 := n1_; have HO_188002 := n2_; have HO206 := n3_; have HO209 := n4_; have BK176 := n5_; have BK187 := n6_; have HB := n7_; clear n0_ n1_ n2_ n3_ n4_ n5_ n6_ n7_; (try clear hb); (try clear hb2); (try clear hk); (try clear hi); (try clear ho0)))
                    go_roundg k2
                    case measure => have := HK1.out; have := HK2.out; omega
                    case rel => exact ⟨(wrap64 (Int.tdiv x11_2 2)), (t207), (y204), (.slice Ao54 y204.length co54), (by first | rfl | (simp; done) | (simp [*]; done)), H', ⟨by have := HK1.out; have := HK2.out; omega⟩, ⟨by (with_reducible repeat (first | apply qd4 | apply qe4 | apply qf4)); exact qm4 HO209.out (fun _ hk => ⟨hk.1.1.2, ⟨hk.1.2, hk.2⟩⟩)⟩, ⟨by (with_reducible repeat (first | apply qd4 | apply qe4 | apply qf4)); exact qm4 HO_188001.out (fun _ hk => ⟨hk.2, ⟨hk.1.1.2, hk.1.2⟩⟩)⟩, ⟨by (with_reducible repeat (first | apply qd4 | apply qe4 | apply qf4)); exact qm4 HO_188002.out (fun _ hk => ⟨hk.2, ⟨hk.1.1.2, hk.1.2⟩⟩)⟩, ⟨by (with_reducible repeat (first | apply qd4 | apply qe4 | apply qf4)); exact qm4 HO206.out (fun _ hk => ⟨hk.2, ⟨hk.1.2.1, hk.1.2.2⟩⟩)⟩, ⟨by (with_reducible repeat (first | apply qa4 | apply qb4 | apply qc4)); exact BK176.out⟩, ⟨by (with_reducible repeat (first | apply qa4 | apply qb4 | apply qc4)); exact BK187.out⟩, ⟨by repeat (first | (with_reducible first | exact HB.out | apply qg4 | apply qh4 | apply qi4 | refine qj4 ?_ GE176.out | refine qj4 ?_ GE187.out) | exact HB.out)⟩⟩
                  · rw [if_neg c49] at H
                    exact absurd H (by simp)
                · rw [if_neg c48] at H
                  exact absurd H (by simp)
              · rw [if_neg c47] at H
                exact absurd H (by simp)
            · rw [if_neg c46] at H
              have c46b0 : decide (1 < (x12_2.length : Int)) = false := decide_eq_false c46
              have c46b1 : decide (1 < x12_2.length) = false := decide_eq_false (by omega)
              clear c46
              simp only [Option.some.injEq, Prod.mk.injEq] at H
              obtain ⟨rfl, rfl, rfl, rfl⟩ := H
              obtain ⟨Ao57, co57, eo57⟩ := Kd.R_slice HO_12.out
              subst eo57
              have hnb58 := NB187_176.out
              have hnc58 := NB176_187.out
              have hcz59_0 : wr.cell? ⟨gb187, 0, none⟩ = some (.int .i64 a1) := (blk_cell BK187.out 0).trans rfl
              have hcz59_1 : wr.cell? ⟨gb187, 1, none⟩ = some (u188001) := (blk_cell BK187.out 1).trans rfl
              have hcz59_2 : wr.cell? ⟨gb187, 2, none⟩ = some (u188002) := (blk_cell BK187.out 2).trans rfl
              have hcz59_3 : wr.cell? ⟨gb187, 3, none⟩ = some (u188003) := (blk_cell BK187.out 3).trans rfl
              have hfz59_0 := blk_frozen BK187.out 0
              have hfz59_1 := blk_frozen BK187.out 1
              have hfz59_2 := blk_frozen BK187.out 2
              have hfz59_3 := blk_frozen BK187.out 3
              have hcz60_0 : wr.cell? ⟨gb176, 0, none⟩ = some (.int .i64 0) := (blk_cell BK176.out 0).trans rfl
              have hcz60_1 : wr.cell? ⟨gb176, 1, none⟩ = some (.slice none 0 0) := (blk_cell BK176.out 1).trans rfl
              have hcz60_2 : wr.cell? ⟨gb176, 2, none⟩ = some (.slice none 0 0) := (blk_cell BK176.out 2).trans rfl
              have hcz60_3 : wr.cell? ⟨gb176, 3, none⟩ = some (.slice none 0 0) := (blk_cell BK176.out 3).trans rfl
              have hfz60_0 := blk_frozen BK176.out 0
              have hfz60_1 := blk_frozen BK176.out 1
              have hfz60_2 := blk_frozen BK176.out 2
              have hfz60_3 := blk_frozen BK176.out 3
              obtain ⟨Ao61, co61, eo61⟩ := Kd.R_slice HO_188001.out
              subst eo61
              obtain ⟨Ao62, co62, eo62⟩ := Kd.R_slice HO_188002.out
              subst eo62
              obtain ⟨Ao63, co63, eo63⟩ := Kd.R_slice HO_188003.out
              subst eo63
              go_wp2
              refine bodyPost_ret (results_cell_row rfl _ _ gb176 51 #[.int .i64 a1, .slice Ao61 x188001_1.length co61, .slice Ao62 x188002_1.length co62, .slice Ao63 x188003_2.length co63] (0, 0) _ rfl (by (with_reducible repeat (first | apply qa4 | apply qb4 | apply qc4)); refine blk_put (cs := #[.int .i64 a1, .slice Ao61 x188001_1.length co61, .slice Ao62 x188002_1.length co62, .slice none 0 0]) ?_ 3 _ rfl; (with_reducible repeat (first | apply qa4 | apply qb4 | apply qc4)); refine blk_put (cs := #[.int .i64 a1, .slice Ao61 x188001_1.length co61, .slice none 0 0, .slice none 0 0]) ?_ 2 _ rfl; (with_reducible repeat (first | apply qa4 | apply qb4 | apply qc4)); refine blk_put (cs := #[.int .i64 a1, .slice none 0 0, .slice none 0 0, .slice none 0 0]) ?_ 1 _ rfl; (with_reducible repeat (first | apply qa4 | apply qb4 | apply qc4)); refine blk_put (cs := #[.int .i64 0, .slice none 0 0, .slice none 0 0, .slice none 0 0]) ?_ 0 _ rfl; (with_reducible repeat (first | apply qa4 | apply qb4 | apply qc4)); exact BK176.out) Tryd.underlying51 rfl (by kernel_rfl)) rfl ?_
              exact ⟨_, _, _, by first | rfl | (simp [errW_none, errW_some] <;> rfl) | (simp [*, errW_none, errW_some] <;> rfl), by (with_reducible repeat (first | apply qd4 | apply qe4 | apply qf4)); exact qm4 (ql4 (p := ⟨gb176, 3, none⟩) (ql4 (p := ⟨gb176, 2, none⟩) (ql4 (p := ⟨gb176, 1, none⟩) (ql4 (p := ⟨gb176, 0, none⟩) (Kd.R_types HO_188001.out BK176.out (by decide)) (fun _ hk => hk.2) (.int .i64 a1)) (fun _ hk => hk.2) (.slice Ao61 x188001_1.length co61)) (fun _ hk => hk.2) (.slice Ao62 x188002_1.length co62)) (fun _ hk => hk.2) (.slice Ao63 x188003_2.length co63)) (fun _ hk => ⟨hk.1.2.1, hk.1.2.2⟩), by (with_reducible repeat (first | apply qd4 | apply qe4 | apply qf4)); exact qm4 (ql4 (p := ⟨gb176, 3, none⟩) (ql4 (p := ⟨gb176, 2, none⟩) (ql4 (p := ⟨gb176, 1, none⟩) (ql4 (p := ⟨gb176, 0, none⟩) (Kd.R_types HO_188002.out BK176.out (by decide)) (fun _ hk => hk.2) (.int .i64 a1)) (fun _ hk => hk.2) (.slice Ao61 x188001_1.length co61)) (fun _ hk => hk.2) (.slice Ao62 x188002_1.length co62)) (fun _ hk => hk.2) (.slice Ao63 x188003_2.length co63)) (fun _ hk => ⟨hk.1.2.1, hk.1.2.2⟩), by (with_reducible repeat (first | apply qd4 | apply qe4 | apply qf4)); exact qm4 (ql4 (p := ⟨gb176, 3, none⟩) (ql4 (p := ⟨gb176, 2, none⟩) (ql4 (p := ⟨gb176, 1, none⟩) (ql4 (p := ⟨gb176, 0, none⟩) (Kd.R_types HO_188003.out BK176.out (by decide)) (fun _ hk => hk.2) (.int .i64 a1)) (fun _ hk => hk.2) (.slice Ao61 x188001_1.length co61)) (fun _ hk => hk.2) (.slice Ao62 x188002_1.length co62)) (fun _ hk => hk.2) (.slice Ao63 x188003_2.length co63)) (fun _ hk => ⟨hk.1.2.1, hk.1.2.2⟩), by repeat (first | (with_reducible first | exact HB.out | apply qg4 | apply qh4 | apply qi4 | refine qj4 ?_ GE176.out | refine qj4 ?_ GE187.out) | exact HB.out)⟩

end Go.Proofs.YtgknilganicofaaDoor.PFnExactSignNext
