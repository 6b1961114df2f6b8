-- laid by this session's program myprint.py over the kit's printer
-- aliased
import Derived.Test.YtmkaknegjahjaaaDoorPFnChainx0
import Derived.Test.YtmkaknegjahjaaaDoorPFnChainx5
import Derived.Test.YtmkaknegjahjaaaDoorPFnChainx6
namespace Go.Proofs.YtmkaknegjahjaaaDoor.PFnChain
open Go.RowKit Go.Proofs.YtmkaknegjahjaaaDoorV.PrintWords Go.Proofs.YtmkaknegjahjaaaDoorV.PrintLast Go.Proofs.YtmkaknegjahjaaaDoorV.PrintMore
attribute [local go_sem] max2_int min2_int max_two min_two max_three min_three max_four min_four u8_wm u32_wm   -- for this text's walks alone
set_option linter.unusedVariables false
set_option linter.unusedSimpArgs false

/-! ### spec_l03Sign: function 61 -/
theorem qa7 : type_of% @blk_drewN := @blk_drewN
theorem qb7 : type_of% @blk_drew := @blk_drew
theorem qc7 : type_of% @blk_alloc := @blk_alloc
theorem qd7 : type_of% @Kd.R_alloc := @Kd.R_alloc
theorem qe7 : type_of% @Kd.R_drewN := @Kd.R_drewN
theorem qf7 : type_of% @Kd.R_drew := @Kd.R_drew
theorem qg7 : type_of% @below_alloc := @below_alloc
theorem qh7 : type_of% @pw_below_drewN := @pw_below_drewN
theorem qi7 : type_of% @below_drew1 := @below_drew1
theorem qj7 : type_of% @below_set := @below_set
theorem qk7 : type_of% @Aside0.mk := @Aside0.mk
theorem ql7 : type_of% @Kd.R_far := @Kd.R_far
theorem qm7 : type_of% @Kd.R_mono := @Kd.R_mono
mutual
def spec_l03Sign.l0 : Nat → ByteArray → Int → ByteArray → Int → Int → List ByteArray → List ByteArray → List ByteArray → Option (Int × List ByteArray × List ByteArray × List ByteArray)
  | 0, _, _, _, _, _, _, _, _ => none
  | k + 1, x0, x1, x7, x9, x239000, x239001, x239002, x239003 => if x9 < 32 then (if 0 ≤ x9 then (if x9 < (x7.size : Int) then ((spec_l03Secret.f x0 x1 x9 (((bt x7 x9) - 48) % 256)).bind fun t239 => (if x239001.length < 8796093022208 then ((spec_l03Secret.f x0 x1 x9 (wrap64 (1 - (((bt x7 x9) - 48) % 256)))).bind fun t243 => (if t243.size ≤ 9223372036854775807 then ((spec_l01Hash.f (bytesOf t243)).bind fun t247 => (if x239002.length < 8796093022208 then (spec_l03Sign.l0 k x0 x1 x7 (wrap64 (x9 + 1)) x239000 (x239001 ++ [t239]) (x239002 ++ [t247]) x239003) else (none))) else (none))) else (none))) else (none)) else (none)) else ((spec_l03Keys.f k x0).bind fun t251 => (spec_l03Sign.l1 k x1 t251 x239000 x239001 x239002 x239003))
def spec_l03Sign.l1 : Nat → Int → List ByteArray → Int → List ByteArray → List ByteArray → List ByteArray → Option (Int × List ByteArray × List ByteArray × List ByteArray)
  | 0, _, _, _, _, _, _ => none
  | k + 1, x11, x12, x239000, x239001, x239002, x239003 => if (x12.length : Int) > 1 then (if 0 ≤ (Go.bits .xor .i64 x11 1) then (if (Go.bits .xor .i64 x11 1) < (x12.length : Int) then (if x239003.length < 8796093022208 then ((spec_l03Level.f k x12).bind fun t258 => (spec_l03Sign.l1 k (wrap64 (Int.tdiv x11 2)) t258 x239000 x239001 x239002 (x239003 ++ [rdOf ByteArray.empty x12 (Go.bits .xor .i64 x11 1)]))) else (none)) else (none)) else (none)) else (some (x239000, x239001, x239002, x239003))
end
def spec_l03Sign.f (k : Nat) (a0 : ByteArray) (a1 : Int) (a2 : ByteArray) : Option (Int × List ByteArray × List ByteArray × List ByteArray) := (spec_l03Bits.f k a2).bind fun t228 => (spec_l03Sign.l0 k a0 a1 t228 0 a1 (([] : List ByteArray)) (([] : List ByteArray)) (([] : List ByteArray)))
theorem spec_l03Sign.mono_l : ∀ k, (∀ y0 y1 y2 y3 y4 y5 y6 y7, LeO (spec_l03Sign.l0 k y0 y1 y2 y3 y4 y5 y6 y7) (spec_l03Sign.l0 (k + 1) y0 y1 y2 y3 y4 y5 y6 y7)) ∧ (∀ y0 y1 y2 y3 y4 y5, LeO (spec_l03Sign.l1 k y0 y1 y2 y3 y4 y5) (spec_l03Sign.l1 (k + 1) y0 y1 y2 y3 y4 y5))
  | 0 => ⟨fun _ _ _ _ _ _ _ _ r h => by simp [spec_l03Sign.l0] at h, fun _ _ _ _ _ _ r h => by simp [spec_l03Sign.l1] at h⟩
  | k + 1 => by
    obtain ⟨ih0, ih1⟩ := spec_l03Sign.mono_l k
    refine ⟨?_, ?_⟩
    · intro y0 y1 y2 y3 y4 y5 y6 y7
      unfold spec_l03Sign.l0
      repeat' first
      | (with_reducible exact ih0 _ _ _ _ _ _ _ _)
      | (with_reducible exact ih1 _ _ _ _ _ _)
      | (with_reducible exact spec_l03Bits.mono _ _)
      | (with_reducible exact spec_l03Keys.mono _ _)
      | (with_reducible exact spec_l03Level.mono _ _)
      | (with_reducible exact LeO.refl _)
      | (with_reducible exact LeO.none _)
      | (with_reducible refine LeO.ite ?_ ?_)
      | (with_reducible refine LeO.bind ?_ (fun _ => ?_))
      | exact ih0 _ _ _ _ _ _ _ _
      | exact ih1 _ _ _ _ _ _
      | exact spec_l03Bits.mono _ _
      | exact spec_l03Keys.mono _ _
      | exact spec_l03Level.mono _ _
      | exact LeO.none _
      | refine LeO.ite ?_ ?_
      | refine LeO.bind ?_ (fun _ => ?_)
    · intro y0 y1 y2 y3 y4 y5
      unfold spec_l03Sign.l1
      repeat' first
      | (with_reducible exact ih0 _ _ _ _ _ _ _ _)
      | (with_reducible exact ih1 _ _ _ _ _ _)
      | (with_reducible exact spec_l03Bits.mono _ _)
      | (with_reducible exact spec_l03Keys.mono _ _)
      | (with_reducible exact spec_l03Level.mono _ _)
      | (with_reducible exact LeO.refl _)
      | (with_reducible exact LeO.none _)
      | (with_reducible refine LeO.ite ?_ ?_)
      | (with_reducible refine LeO.bind ?_ (fun _ => ?_))
      | exact ih0 _ _ _ _ _ _ _ _
      | exact ih1 _ _ _ _ _ _
      | exact spec_l03Bits.mono _ _
      | exact spec_l03Keys.mono _ _
      | exact spec_l03Level.mono _ _
      | exact LeO.none _
      | refine LeO.ite ?_ ?_
      | refine LeO.bind ?_ (fun _ => ?_)
theorem spec_l03Sign.mono : ∀ a0 a1 a2 k, LeO (spec_l03Sign.f k a0 a1 a2) (spec_l03Sign.f (k + 1) a0 a1 a2) := by
  intro a0 a1 a2 k
  obtain ⟨ih0, ih1⟩ := spec_l03Sign.mono_l k
  unfold spec_l03Sign.f
  repeat' first
      | (with_reducible exact ih0 _ _ _ _ _ _ _ _)
      | (with_reducible exact ih1 _ _ _ _ _ _)
      | (with_reducible exact spec_l03Bits.mono _ _)
      | (with_reducible exact spec_l03Keys.mono _ _)
      | (with_reducible exact spec_l03Level.mono _ _)
      | (with_reducible exact LeO.refl _)
      | (with_reducible exact LeO.none _)
      | (with_reducible refine LeO.ite ?_ ?_)
      | (with_reducible refine LeO.bind ?_ (fun _ => ?_))
      | exact ih0 _ _ _ _ _ _ _ _
      | exact ih1 _ _ _ _ _ _
      | exact spec_l03Bits.mono _ _
      | exact spec_l03Keys.mono _ _
      | exact spec_l03Level.mono _ _
      | exact LeO.none _
      | refine LeO.ite ?_ ?_
      | refine LeO.bind ?_ (fun _ => ?_)
def spec_l03Sign.T7 : Bool × List (List Nat × List Nat) := (true, [([], []), ([0], [0]), ([], []), ([], []), ([], []), ([], []), ([2, 3, 4, 5], [2, 3, 4, 5]), ([6], [6]), ([1, 7, 6], [1, 7]), ([0, 1, 2, 3, 4, 5, 6, 7, 8], []), ([9, 8, 8, 0, 1, 2, 3, 4, 5, 6, 7, 8], [8, 9])])
def spec_l03Sign.B7 : List Nat := [0, 1, 0, 0, 0, 0, 60, 124, 255, 511, 1023]
theorem spec_l03Sign.tab7 : rtab .any (opsOf Tryd.f61 7) = spec_l03Sign.T7 := by kernel_rfl
theorem spec_l03Sign.bits7 : waitsOk spec_l03Sign.T7.2 spec_l03Sign.B7 = true := by kernel_rfl
def spec_l03Sign.T8 : Bool × List (List Nat × List Nat) := (true, [([], []), ([0], [0]), ([], []), ([], []), ([], []), ([], []), ([5], [5]), ([2, 3, 4, 6], [2, 3, 4, 6]), ([7], [7]), ([8, 7], [8]), ([9], [9]), ([1, 10, 9], [1, 10]), ([0, 1, 2, 3, 4, 5, 6, 7, 8, 9, 10, 11], []), ([12, 11, 11, 0, 1, 2, 3, 4, 5, 6, 7, 8, 9, 10, 11], [11, 12])])
def spec_l03Sign.B8 : List Nat := [0, 1, 0, 0, 0, 0, 32, 124, 252, 508, 1020, 2047, 4095, 8191]
theorem spec_l03Sign.tab8 : rtab .any (opsOf Tryd.f61 8) = spec_l03Sign.T8 := by kernel_rfl
theorem spec_l03Sign.bits8 : waitsOk spec_l03Sign.T8.2 spec_l03Sign.B8 = true := by kernel_rfl
def spec_l03Sign.T13 : Bool × List (List Nat × List Nat) := (true, [([], []), ([0], [0]), ([], []), ([], []), ([3], [3]), ([2, 4], [2, 4]), ([5], [5]), ([6], [6]), ([1, 7], [1, 7]), ([0, 1, 2, 3, 4, 5, 6, 7, 8], []), ([9, 8, 8, 0, 1, 2, 3, 4, 5, 6, 7, 8], [8, 9])])
def spec_l03Sign.B13 : List Nat := [0, 1, 0, 0, 8, 28, 60, 124, 255, 511, 1023]
theorem spec_l03Sign.tab13 : rtab .any (opsOf Tryd.f61 13) = spec_l03Sign.T13 := by kernel_rfl
theorem spec_l03Sign.bits13 : waitsOk spec_l03Sign.T13.2 spec_l03Sign.B13 = true := by kernel_rfl
set_option maxHeartbeats 8000000 in
set_option maxRecDepth 100000 in
theorem spec_l03Sign.calls (k : Nat) (a0 : ByteArray) (a1 : Int) (a2 : ByteArray) (r1 : Int) (r2 : List ByteArray) (r3 : List ByteArray) (r4 : List ByteArray) (w : World) (h : spec_l03Sign.f k a0 a1 a2 = some (r1, r2, r3, r4)) :
    Calls Tryd.prog 61 #[.string a0, .int .i64 a1, .string a2] w fun e w' => ∃ v1_ v2_ v3_ : Value, e = .returned (.agg #[.int .i64 r1, v1_, v2_, v3_]) ∧ Kd.R Kd.string 9 w' w.heap.size (fun k_ => some k_ ≠ (v2_ : Value).ownBlock ∧ some k_ ≠ (v3_ : Value).ownBlock) v1_ r2 ∧ Kd.R Kd.string 9 w' w.heap.size (fun k_ => some k_ ≠ (v1_ : Value).ownBlock ∧ some k_ ≠ (v3_ : Value).ownBlock) v2_ r3 ∧ Kd.R Kd.string 9 w' w.heap.size (fun k_ => some k_ ≠ (v1_ : Value).ownBlock ∧ some k_ ≠ (v2_ : Value).ownBlock) v3_ r4 ∧ Below w.heap.size w w' := by
  have hu33 := Tryd.underlying33
  have HB := qk7 (Below.refl w.heap.size w)
  have H : ((spec_l03Bits.f k a2).bind fun t228 => (spec_l03Sign.l0 k a0 a1 t228 0 a1 (([] : List ByteArray)) (([] : List ByteArray)) (([] : List ByteArray)))) = some (r1, r2, r3, r4) := h
  clear h
  replace H := Option.bind_eq_some_iff.mp H
  obtain ⟨t228, A40, H⟩ := H
  replace H : (spec_l03Sign.l0 k a0 a1 t228 0 a1 (([] : List ByteArray)) (([] : List ByteArray)) (([] : List ByteArray))) = some (r1, r2, r3, r4) := H
  have A4 := qk7 A40
  clear A40
  obtain ⟨y229, hy229⟩ : ∃ y_ : List ByteArray, y_ = (([] : List ByteArray)) := ⟨_, rfl⟩
  replace H : (spec_l03Sign.l0 k a0 a1 t228 0 a1 y229 (([] : List ByteArray)) (([] : List ByteArray))) = some (r1, r2, r3, r4) := by first | (rw [hy229]; with_reducible exact H) | (have H2_ := (Option.bind_some _ _).symm.trans H; rw [hy229]; with_reducible exact H2_) | (have H2_ := (Option.bind_some _ _).symm.trans H; with_reducible exact H2_) | with_reducible exact H | (rw [hy229]; exact H) | exact H
  have Ny229 := qk7 hy229
  clear hy229
  obtain ⟨y232, hy232⟩ : ∃ y_ : List ByteArray, y_ = (([] : List ByteArray)) := ⟨_, rfl⟩
  replace H : (spec_l03Sign.l0 k a0 a1 t228 0 a1 y229 y232 (([] : List ByteArray))) = some (r1, r2, r3, r4) := by first | (rw [hy232]; with_reducible exact H) | (have H2_ := (Option.bind_some _ _).symm.trans H; rw [hy232]; with_reducible exact H2_) | (have H2_ := (Option.bind_some _ _).symm.trans H; with_reducible exact H2_) | with_reducible exact H | (rw [hy232]; exact H) | exact H
  have Ny232 := qk7 hy232
  clear hy232
  obtain ⟨y235, hy235⟩ : ∃ y_ : List ByteArray, y_ = (([] : List ByteArray)) := ⟨_, rfl⟩
  replace H : (spec_l03Sign.l0 k a0 a1 t228 0 a1 y229 y232 y235) = some (r1, r2, r3, r4) := by first | (rw [hy235]; with_reducible exact H) | (have H2_ := (Option.bind_some _ _).symm.trans H; rw [hy235]; with_reducible exact H2_) | (have H2_ := (Option.bind_some _ _).symm.trans H; with_reducible exact H2_) | with_reducible exact H | (rw [hy235]; exact H) | exact H
  have Ny235 := qk7 hy235
  clear hy235
  have H' := qk7 H
  clear H
  go_enter Tryd.func61, Tryd.ntmps61
  go_wp2_with (first | ((with_reducible refine gate_dst (N := 6) rfl ?_); refine box_event ?hg (N := 6) ?hd (cs := #[.int .i64 0, .slice none 0 0, .slice none 0 0, .slice none 0 0]) (t := 33) ?hr ?_; (case hd => rfl); (case hg => rfl); (case hr => first | (go_simp; done) | (go_simp; rfl)); intro gb227 hg w5 hbox hb; have n0_ := qk7 (below_step (by repeat (first | (with_reducible first | exact HB.out | apply qg7 | apply qh7 | apply qi7) | exact HB.out)) hb); have n1_ := qk7 (hbox); have n2_ := qk7 ((by rw [hg]; exact (below_size (by repeat (first | (with_reducible first | exact HB.out | apply qg7 | apply qh7 | apply qi7) | exact HB.out))) : w.heap.size ≤ gb227)); have n3_ := qk7 ((by rw [hg]; exact (below_size (by repeat (first | (with_reducible first | exact HB.out | apply qg7 | apply qh7 | apply qi7) | exact HB.out))) : w.heap.size ≤ gb227)); clear HB; have HB := n0_; have BK227 := n1_; have GW227 := n2_; have GE227 := n3_; clear n0_ n1_ n2_ n3_; clear hb hbox hg) | ((with_reducible refine gate_callee (f := 76) rfl ?_); refine goesL_ (some 14) rfl rfl Tryd.func76 (by kernel_rfl) rfl #[.string a2] rfl (by (try simp only [List.map_toArray, List.map_cons, List.map_nil]); first | done | rfl | (simp only [List.length_drop, List.length_take]; rfl)) ?_; (with_reducible refine (spec_l03Bits.calls k a2 t228 _ A4.out).mono ?_); rintro e w6 ⟨rfl, hb⟩; refine ⟨_, rfl, ?_⟩; have n0_ := qk7 (blk_below (g := gb227) (o := .cells #[.int .i64 0, .slice none 0 0, .slice none 0 0, .slice none 0 0] 33 (0, 0)) (by (with_reducible repeat (first | apply qa7 | apply qb7 | apply qc7)); exact BK227.out) hb); have n1_ := qk7 (below_step (by repeat (first | (with_reducible first | exact HB.out | apply qg7 | apply qh7 | apply qi7 | refine qj7 ?_ GE227.out) | exact HB.out)) hb); clear BK227; clear HB; have BK227 := n0_; have HB := n1_; clear n0_ n1_; (try clear hb); (try clear hb2); (try clear hk); (try clear hi)) | ((with_reducible refine gate_dst (N := 16) rfl ?_); refine Kd.R_lit Kd.string _ 9 ?hg (N := 16) ?hd (xs := ([] : List ByteArray)) (inner := []) (ok := fun _ => True) (okp := fun _ => True) ?hr ?hp (fun _ hk => hk) trivial (Below.refl _ _) (Nat.le_refl _) (by simp) ?_; (case hd => rfl); (case hg => rfl); (case hr => first | (go_simp; done) | (go_simp; rfl)); (case hp => exact (Reps.none _ _)); intro v230 w7 ho8 hb hg_ hnew_; clear hg_ hnew_; (first | rw [← Ny229.out] at ho8 | (simp only [Int.reduceToNat] at ho8; rw [← Ny229.out] at ho8)); have n0_ := qk7 (Kd.R_lower ho8 (below_size (by repeat (first | (with_reducible first | exact HB.out | apply qg7 | apply qh7 | apply qi7 | refine qj7 ?_ GE227.out) | exact HB.out)))); have n1_ := qk7 (blk_below (g := gb227) (o := .cells #[.int .i64 0, .slice none 0 0, .slice none 0 0, .slice none 0 0] 33 (0, 0)) (by (with_reducible repeat (first | apply qa7 | apply qb7 | apply qc7)); exact BK227.out) hb); have n2_ := qk7 (below_step (by repeat (first | (with_reducible first | exact HB.out | apply qg7 | apply qh7 | apply qi7 | refine qj7 ?_ GE227.out) | exact HB.out)) hb); clear BK227; clear HB; have HO231 := n0_; have BK227 := n1_; have HB := n2_; clear n0_ n1_ n2_; clear hb ho8) | ((with_reducible refine gate_dst (N := 17) rfl ?_); refine Kd.R_lit Kd.string _ 9 ?hg (N := 17) ?hd (xs := ([] : List ByteArray)) (inner := []) (ok := fun _ => True) (okp := fun _ => True) ?hr ?hp (fun _ hk => hk) trivial (Below.refl _ _) (Nat.le_refl _) (by simp) ?_; (case hd => rfl); (case hg => rfl); (case hr => first | (go_simp; done) | (go_simp; rfl)); (case hp => exact (Reps.none _ _)); intro v233 w9 ho10 hb hg_ hnew_; clear hg_ hnew_; (first | rw [← Ny232.out] at ho10 | (simp only [Int.reduceToNat] at ho10; rw [← Ny232.out] at ho10)); have n0_ := qk7 (Kd.R_elder' (by (with_reducible repeat (first | apply qd7 | apply qe7 | apply qf7)); exact HO231.out) (Kd.R_base ho10) hb); have n1_ := qk7 (Kd.R_lower (Kd.R_new' ho10 (Kd.R_lt (by (with_reducible repeat (first | apply qd7 | apply qe7 | apply qf7)); exact HO231.out))) (below_size (by repeat (first | (with_reducible first | exact HB.out | apply qg7 | apply qh7 | apply qi7 | refine qj7 ?_ GE227.out) | exact HB.out)))); have n2_ := qk7 (blk_below (g := gb227) (o := .cells #[.int .i64 0, .slice none 0 0, .slice none 0 0, .slice none 0 0] 33 (0, 0)) (by (with_reducible repeat (first | apply qa7 | apply qb7 | apply qc7)); exact BK227.out) hb); have n3_ := qk7 (below_step (by repeat (first | (with_reducible first | exact HB.out | apply qg7 | apply qh7 | apply qi7 | refine qj7 ?_ GE227.out) | exact HB.out)) hb); clear HO231; clear BK227; clear HB; have HO231 := n0_; have HO234 := n1_; have BK227 := n2_; have HB := n3_; clear n0_ n1_ n2_ n3_; clear hb ho10) | ((with_reducible refine gate_dst (N := 18) rfl ?_); refine Kd.R_lit Kd.string _ 9 ?hg (N := 18) ?hd (xs := ([] : List ByteArray)) (inner := []) (ok := fun _ => True) (okp := fun _ => True) ?hr ?hp (fun _ hk => hk) trivial (Below.refl _ _) (Nat.le_refl _) (by simp) ?_; (case hd => rfl); (case hg => rfl); (case hr => first | (go_simp; done) | (go_simp; rfl)); (case hp => exact (Reps.none _ _)); intro v236 w11 ho12 hb hg_ hnew_; clear hg_ hnew_; (first | rw [← Ny235.out] at ho12 | (simp only [Int.reduceToNat] at ho12; rw [← Ny235.out] at ho12)); have n0_ := qk7 (Kd.R_elder' (by (with_reducible repeat (first | apply qd7 | apply qe7 | apply qf7)); exact HO231.out) (Kd.R_base ho12) hb); have n1_ := qk7 (Kd.R_elder' (by (with_reducible repeat (first | apply qd7 | apply qe7 | apply qf7)); exact HO234.out) (Kd.R_base ho12) hb); have n2_ := qk7 (Kd.R_lower (Kd.R_new' (Kd.R_new' ho12 (Kd.R_lt (by (with_reducible repeat (first | apply qd7 | apply qe7 | apply qf7)); exact HO231.out))) (Kd.R_lt (by (with_reducible repeat (first | apply qd7 | apply qe7 | apply qf7)); exact HO234.out))) (below_size (by repeat (first | (with_reducible first | exact HB.out | apply qg7 | apply qh7 | apply qi7 | refine qj7 ?_ GE227.out) | exact HB.out)))); have n3_ := qk7 (blk_below (g := gb227) (o := .cells #[.int .i64 0, .slice none 0 0, .slice none 0 0, .slice none 0 0] 33 (0, 0)) (by (with_reducible repeat (first | apply qa7 | apply qb7 | apply qc7)); exact BK227.out) hb); have n4_ := qk7 (below_step (by repeat (first | (with_reducible first | exact HB.out | apply qg7 | apply qh7 | apply qi7 | refine qj7 ?_ GE227.out) | exact HB.out)) hb); clear HO231; clear HO234; clear BK227; clear HB; have HO231 := n0_; have HO234 := n1_; have HO237 := n2_; have BK227 := n3_; have HB := n4_; clear n0_ n1_ n2_ n3_ n4_; clear hb ho12; obtain ⟨Ao13, co13, eo13⟩ := Kd.R_slice HO237.out; subst eo13; obtain ⟨Ao14, co14, eo14⟩ := Kd.R_slice HO234.out; subst eo14; obtain ⟨Ao15, co15, eo15⟩ := Kd.R_slice HO231.out; subst eo15) | ((with_reducible refine gate_dst (N := 8) rfl ?_); refine box_event ?hg (N := 8) ?hd (cs := #[.int .i64 0, .slice none 0 0, .slice none 0 0, .slice none 0 0]) (t := 33) ?hr ?_; (case hd => rfl); (case hg => rfl); (case hr => first | (go_simp; done) | (go_simp; rfl)); intro gb238 hg w16 hbox hb; have n0_ := qk7 (Kd.R_below (by (with_reducible repeat (first | apply qd7 | apply qe7 | apply qf7)); exact HO231.out) hb); have n1_ := qk7 (Kd.R_below (by (with_reducible repeat (first | apply qd7 | apply qe7 | apply qf7)); exact HO234.out) hb); have n2_ := qk7 (Kd.R_below (by (with_reducible repeat (first | apply qd7 | apply qe7 | apply qf7)); exact HO237.out) hb); have n3_ := qk7 (blk_below (g := gb227) (o := .cells #[.int .i64 0, .slice none 0 0, .slice none 0 0, .slice none 0 0] 33 (0, 0)) (by (with_reducible repeat (first | apply qa7 | apply qb7 | apply qc7)); exact BK227.out) hb); have n4_ := qk7 (below_step (by repeat (first | (with_reducible first | exact HB.out | apply qg7 | apply qh7 | apply qi7 | refine qj7 ?_ GE227.out) | exact HB.out)) hb); have n5_ := qk7 (hbox); have n6_ := qk7 ((by rw [hg]; exact (below_size (by repeat (first | (with_reducible first | exact HB.out | apply qg7 | apply qh7 | apply qi7 | refine qj7 ?_ GE227.out) | exact HB.out))) : w.heap.size ≤ gb238)); have n7_ := qk7 ((by rw [hg]; exact (below_size (by repeat (first | (with_reducible first | exact HB.out | apply qg7 | apply qh7 | apply qi7 | refine qj7 ?_ GE227.out) | exact HB.out))) : w.heap.size ≤ gb238)); have n8_ := qk7 ((by rw [hg]; exact Nat.ne_of_lt (blk_lt (g := gb227) (o := .cells #[.int .i64 0, .slice none 0 0, .slice none 0 0, .slice none 0 0] 33 (0, 0)) (by (with_reducible repeat (first | apply qa7 | apply qb7 | apply qc7)); exact BK227.out)) : gb227 ≠ gb238)); have n9_ := qk7 ((by rw [hg]; exact Nat.ne_of_gt (blk_lt (g := gb227) (o := .cells #[.int .i64 0, .slice none 0 0, .slice none 0 0, .slice none 0 0] 33 (0, 0)) (by (with_reducible repeat (first | apply qa7 | apply qb7 | apply qc7)); exact BK227.out)) : gb238 ≠ gb227)); clear HO231; clear HO234; clear HO237; clear BK227; clear HB; have HO231 := n0_; have HO234 := n1_; have HO237 := n2_; have BK227 := n3_; have HB := n4_; have BK238 := n5_; have GW238 := n6_; have GE238 := n7_; have NB227_238 := n8_; have NB238_227 := n9_; clear n0_ n1_ n2_ n3_ n4_ n5_ n6_ n7_ n8_ n9_; clear hb hbox hg; have hnb17 := NB238_227.out; have hnc17 := NB227_238.out; have hcz18_0 : w16.cell? ⟨gb238, 0, none⟩ = some (.int .i64 0) := (blk_cell BK238.out 0).trans rfl; have hcz18_1 : w16.cell? ⟨gb238, 1, none⟩ = some (.slice none 0 0) := (blk_cell BK238.out 1).trans rfl; have hcz18_2 : w16.cell? ⟨gb238, 2, none⟩ = some (.slice none 0 0) := (blk_cell BK238.out 2).trans rfl; have hcz18_3 : w16.cell? ⟨gb238, 3, none⟩ = some (.slice none 0 0) := (blk_cell BK238.out 3).trans rfl; have hfz18_0 := blk_frozen BK238.out 0; have hfz18_1 := blk_frozen BK238.out 1; have hfz18_2 := blk_frozen BK238.out 2; have hfz18_3 := blk_frozen BK238.out 3))
  go_loopg [9] k (fun kq v9 w' => ∃ (x9_1 : Int) (x239001_1 : List ByteArray) (x239002_1 : List ByteArray) (u239001 : Value) (u239002 : Value), v9 = .int .i64 x9_1 ∧ Aside0 (spec_l03Sign.l0 kq a0 a1 t228 x9_1 a1 x239001_1 x239002_1 y235 = some (r1, r2, r3, r4)) ∧ Aside0 (kq ≤ k) ∧ Aside0 (Kd.R Kd.string 9 w' w.heap.size (fun k_ => some k_ ≠ (u239002 : Value).ownBlock ∧ some k_ ≠ ((.slice Ao13 y235.length co13) : Value).ownBlock) u239001 x239001_1) ∧ Aside0 (Kd.R Kd.string 9 w' w.heap.size (fun k_ => some k_ ≠ (u239001 : Value).ownBlock ∧ some k_ ≠ ((.slice Ao13 y235.length co13) : Value).ownBlock) u239002 x239002_1) ∧ Aside0 (Kd.R Kd.string 9 w' w.heap.size (fun k_ => some k_ ≠ (u239001 : Value).ownBlock ∧ some k_ ≠ (u239002 : Value).ownBlock) (.slice Ao13 y235.length co13) y235) ∧ Aside0 (w'.heap[gb227]? = some (.cells #[.int .i64 0, (.slice none 0 0), (.slice none 0 0), (.slice none 0 0)] 33 (0, 0))) ∧ Aside0 (w'.heap[gb238]? = some (.cells #[.int .i64 a1, u239001, u239002, (.slice Ao13 y235.length co13)] 33 (0, 0))) ∧ Aside0 (Below w.heap.size w w'))
  case atStart => exact ⟨(0), (y229), (y232), (.slice Ao15 y229.length co15), (.slice Ao14 y232.length co14), (by first | rfl | (simp; done) | (simp [*]; done)), H', ⟨Nat.le_refl _⟩, ⟨by (with_reducible repeat (first | apply qd7 | apply qe7 | apply qf7)); exact qm7 (ql7 (p := ⟨gb238, 3, none⟩) (ql7 (p := ⟨gb238, 2, none⟩) (ql7 (p := ⟨gb238, 1, none⟩) (ql7 (p := ⟨gb238, 0, none⟩) (Kd.R_types HO231.out BK238.out (by decide)) (fun _ hk => hk.2) (.int .i64 a1)) (fun _ hk => hk.2) (.slice Ao15 y229.length co15)) (fun _ hk => hk.2) (.slice Ao14 y232.length co14)) (fun _ hk => hk.2) (.slice Ao13 y235.length co13)) (fun _ hk => ⟨hk.1.1.2, hk.1.2⟩)⟩, ⟨by (with_reducible repeat (first | apply qd7 | apply qe7 | apply qf7)); exact qm7 (ql7 (p := ⟨gb238, 3, none⟩) (ql7 (p := ⟨gb238, 2, none⟩) (ql7 (p := ⟨gb238, 1, none⟩) (ql7 (p := ⟨gb238, 0, none⟩) (Kd.R_types HO234.out BK238.out (by decide)) (fun _ hk => hk.2) (.int .i64 a1)) (fun _ hk => hk.2) (.slice Ao15 y229.length co15)) (fun _ hk => hk.2) (.slice Ao14 y232.length co14)) (fun _ hk => hk.2) (.slice Ao13 y235.length co13)) (fun _ hk => ⟨hk.1.1.2, hk.1.2⟩)⟩, ⟨by (with_reducible repeat (first | apply qd7 | apply qe7 | apply qf7)); exact qm7 (ql7 (p := ⟨gb238, 3, none⟩) (ql7 (p := ⟨gb238, 2, none⟩) (ql7 (p := ⟨gb238, 1, none⟩) (ql7 (p := ⟨gb238, 0, none⟩) (Kd.R_types HO237.out BK238.out (by decide)) (fun _ hk => hk.2) (.int .i64 a1)) (fun _ hk => hk.2) (.slice Ao15 y229.length co15)) (fun _ hk => hk.2) (.slice Ao14 y232.length co14)) (fun _ hk => hk.2) (.slice Ao13 y235.length co13)) (fun _ hk => ⟨hk.1.1.2, hk.1.2⟩)⟩, ⟨by (with_reducible repeat (first | apply qa7 | apply qb7 | apply qc7)); refine blk_far ?_ NB227_238.out _; (with_reducible repeat (first | apply qa7 | apply qb7 | apply qc7)); refine blk_far ?_ NB227_238.out _; (with_reducible repeat (first | apply qa7 | apply qb7 | apply qc7)); refine blk_far ?_ NB227_238.out _; (with_reducible repeat (first | apply qa7 | apply qb7 | apply qc7)); refine blk_far ?_ NB227_238.out _; (with_reducible repeat (first | apply qa7 | apply qb7 | apply qc7)); exact BK227.out⟩, ⟨by (with_reducible repeat (first | apply qa7 | apply qb7 | apply qc7)); refine blk_put (cs := #[.int .i64 a1, .slice Ao15 y229.length co15, .slice Ao14 y232.length co14, .slice none 0 0]) ?_ 3 _ rfl; (with_reducible repeat (first | apply qa7 | apply qb7 | apply qc7)); refine blk_put (cs := #[.int .i64 a1, .slice Ao15 y229.length co15, .slice none 0 0, .slice none 0 0]) ?_ 2 _ rfl; (with_reducible repeat (first | apply qa7 | apply qb7 | apply qc7)); refine blk_put (cs := #[.int .i64 a1, .slice none 0 0, .slice none 0 0, .slice none 0 0]) ?_ 1 _ rfl; (with_reducible repeat (first | apply qa7 | apply qb7 | apply qc7)); refine blk_put (cs := #[.int .i64 0, .slice none 0 0, .slice none 0 0, .slice none 0 0]) ?_ 0 _ rfl; (with_reducible repeat (first | apply qa7 | apply qb7 | apply qc7)); exact BK238.out⟩, ⟨by repeat (first | (with_reducible first | exact HB.out | apply qg7 | apply qh7 | apply qi7 | refine qj7 ?_ GE227.out | refine qj7 ?_ GE238.out) | exact HB.out)⟩⟩
  case round =>
    clear H'
    try clear c1
    try clear p2
    try clear c6
    try clear c7
    try clear c17
    try clear hcz18_0
    try clear hcz18_1
    try clear hcz18_2
    try clear hcz18_3
    try clear hfz18_0
    try clear hfz18_1
    try clear hfz18_2
    try clear hfz18_3
    obtain ⟨x9_1, x239001_1, x239002_1, u239001, u239002, rfl, HA, HK1, HO_239001, HO_239002, HO_239003, BK227, BK238, HB⟩ := hrel
    cases gk with
    | zero => exact absurd HA.out (by simp [spec_l03Sign.l0])
    | succ k1 =>
      have H := HA.out
      clear HA
      simp only [spec_l03Sign.l0] at H
      by_cases c19 : x9_1 < 32
      · rw [if_pos c19] at H
        have c19b0 : decide (x9_1 < 32) = true := decide_eq_true c19
        clear c19
        by_cases c20 : 0 ≤ x9_1
        · rw [if_pos c20] at H
          have c20b0 : decide (0 ≤ x9_1) = true := decide_eq_true c20
          clear c20
          by_cases c21 : x9_1 < (t228.size : Int)
          · rw [if_pos c21] at H
            have c21b0 : decide (x9_1 < (t228.size : Int)) = true := decide_eq_true c21
            clear c21
            replace H := Option.bind_eq_some_iff.mp H
            obtain ⟨t239, A230, H⟩ := H
            replace H : (if x239001_1.length < 8796093022208 then ((spec_l03Secret.f a0 a1 x9_1 (wrap64 (1 - (((bt t228 x9_1) - 48) % 256)))).bind fun t243 => (if t243.size ≤ 9223372036854775807 then ((spec_l01Hash.f (bytesOf t243)).bind fun t247 => (if x239002_1.length < 8796093022208 then (spec_l03Sign.l0 k1 a0 a1 t228 (wrap64 (x9_1 + 1)) a1 (x239001_1 ++ [t239]) (x239002_1 ++ [t247]) y235) else (none))) else (none))) else (none)) = some (r1, r2, r3, r4) := H
            have A23 := qk7 A230
            clear A230
            by_cases c24 : x239001_1.length < 8796093022208
            · rw [if_pos c24] at H
              have LMc24 := qk7 c24
              clear c24
              obtain ⟨y240, hy240⟩ : ∃ y_ : List ByteArray, y_ = (x239001_1 ++ [t239]) := ⟨_, rfl⟩
              replace H : ((spec_l03Secret.f a0 a1 x9_1 (wrap64 (1 - (((bt t228 x9_1) - 48) % 256)))).bind fun t243 => (if t243.size ≤ 9223372036854775807 then ((spec_l01Hash.f (bytesOf t243)).bind fun t247 => (if x239002_1.length < 8796093022208 then (spec_l03Sign.l0 k1 a0 a1 t228 (wrap64 (x9_1 + 1)) a1 y240 (x239002_1 ++ [t247]) y235) else (none))) else (none))) = some (r1, r2, r3, r4) := by first | (rw [hy240]; with_reducible exact H) | (have H2_ := (Option.bind_some _ _).symm.trans H; rw [hy240]; with_reducible exact H2_) | (have H2_ := (Option.bind_some _ _).symm.trans H; with_reducible exact H2_) | with_reducible exact H | (rw [hy240]; exact H) | exact H
              have Ny240 := qk7 hy240
              clear hy240
              replace H := Option.bind_eq_some_iff.mp H
              obtain ⟨t243, A250, H⟩ := H
              replace H : (if t243.size ≤ 9223372036854775807 then ((spec_l01Hash.f (bytesOf t243)).bind fun t247 => (if x239002_1.length < 8796093022208 then (spec_l03Sign.l0 k1 a0 a1 t228 (wrap64 (x9_1 + 1)) a1 y240 (x239002_1 ++ [t247]) y235) else (none))) else (none)) = some (r1, r2, r3, r4) := H
              have A25 := qk7 A250
              clear A250
              by_cases c26 : t243.size ≤ 9223372036854775807
              · rw [if_pos c26] at H
                have c26b0 := eq_true c26
                have c26b1 : decide (t243.size ≤ 9223372036854775807) = true := decide_eq_true c26
                try have c26b2 : (9223372036854775807 < t243.size) = False := eq_false (Nat.not_lt.2 c26)
                clear c26
                obtain ⟨y244, hy244⟩ : ∃ y_ : List Int, y_ = (bytesOf t243) := ⟨_, rfl⟩
                replace H : ((spec_l01Hash.f y244).bind fun t247 => (if x239002_1.length < 8796093022208 then (spec_l03Sign.l0 k1 a0 a1 t228 (wrap64 (x9_1 + 1)) a1 y240 (x239002_1 ++ [t247]) y235) else (none))) = some (r1, r2, r3, r4) := by first | (rw [hy244]; with_reducible exact H) | (have H2_ := (Option.bind_some _ _).symm.trans H; rw [hy244]; with_reducible exact H2_) | (have H2_ := (Option.bind_some _ _).symm.trans H; with_reducible exact H2_) | with_reducible exact H | (rw [hy244]; exact H) | exact H
                have Ny244 := qk7 hy244
                clear hy244
                replace H := Option.bind_eq_some_iff.mp H
                obtain ⟨t247, A270, H⟩ := H
                replace H : (if x239002_1.length < 8796093022208 then (spec_l03Sign.l0 k1 a0 a1 t228 (wrap64 (x9_1 + 1)) a1 y240 (x239002_1 ++ [t247]) y235) else (none)) = some (r1, r2, r3, r4) := H
                have A27 := qk7 A270
                clear A270
                by_cases c28 : x239002_1.length < 8796093022208
                · rw [if_pos c28] at H
                  have LMc28 := qk7 c28
                  clear c28
                  obtain ⟨y248, hy248⟩ : ∃ y_ : List ByteArray, y_ = (x239002_1 ++ [t247]) := ⟨_, rfl⟩
                  replace H : (spec_l03Sign.l0 k1 a0 a1 t228 (wrap64 (x9_1 + 1)) a1 y240 y248 y235) = some (r1, r2, r3, r4) := by first | (rw [hy248]; with_reducible exact H) | (have H2_ := (Option.bind_some _ _).symm.trans H; rw [hy248]; with_reducible exact H2_) | (have H2_ := (Option.bind_some _ _).symm.trans H; with_reducible exact H2_) | with_reducible exact H | (rw [hy248]; exact H) | exact H
                  have Ny248 := qk7 hy248
                  clear hy248
                  have H' := qk7 H
                  clear H
                  have p22 : 0 ≤ (x9_1 : Int) := of_decide_eq_true (by first | (with_reducible assumption) | assumption)
                  have q22 : x9_1 < (t228.size : Int) := of_decide_eq_true (by first | (with_reducible assumption) | assumption)
                  have hx22 := bt_at t228 x9_1
                  have bl22 := (bt_range t228 x9_1).1
                  have bh22 := (bt_range t228 x9_1).2
                  replace p22 := eq_true p22
                  replace q22 := eq_true q22
                  try go_wp2
                  have n0_ := qk7 (qf7 HO_239001.out)
                  have n1_ := qk7 (qf7 HO_239002.out)
                  have n2_ := qk7 (qf7 HO_239003.out)
                  have n3_ := qk7 (qb7 BK227.out)
                  have n4_ := qk7 (qb7 BK238.out)
                  have n5_ := qk7 (qi7 HB.out)
                  clear HO_239001
                  clear HO_239002
                  clear HO_239003
                  clear BK227
                  clear BK238
                  clear HB
                  have HO_239001 := n0_
                  have HO_239002 := n1_
                  have HO_239003 := n2_
                  have BK227 := n3_
                  have BK238 := n4_
                  have HB := n5_
                  clear n0_ n1_ n2_ n3_ n4_ n5_
                  refine start_ (n := 11) (S := fun w' => w'.cell? ⟨gb238, 0, none⟩ = some (.int .i64 a1) ∧ w'.cell? ⟨gb238, 1, none⟩ = some (u239001) ∧ w'.cell? ⟨gb238, 2, none⟩ = some (u239002) ∧ w'.cell? ⟨gb238, 3, none⟩ = some (.slice Ao13 y235.length co13)) (ds := [10]) #[false, false, false, false, false, false, false, false, false, false, false] (by kernel_rfl) rfl rfl ⟨(blk_cell BK238.out 0).trans rfl, (blk_cell BK238.out 1).trans rfl, (blk_cell BK238.out 2).trans rfl, (blk_cell BK238.out 3).trans rfl⟩ (fun hHeld => ?_); refine with_tabW spec_l03Sign.tab7 spec_l03Sign.bits7 (fun HT_ HW_ => ?_)
                  generalize wr.drew = w29 at HO_239001 HO_239002 HO_239003 BK227 BK238 HB hHeld ⊢
                  refine pure_ (i := 0) (N := some 29) (v := ?_) (a' := ?_) #[true, false, false, false, false, false, false, false, false, false, false] rfl rfl (any_of HT_.out (by kernel_rfl)) (fun _ _ _ h => h) (Or.inl ⟨by rfl, ?_⟩) ?_ ?_
                  rotate_left
                  · intro w'
                    go_simp
                    with_reducible rfl
                  rotate_left
                  · simp only [Act.put, List.setIfInBounds_toArray, List.set_cons_zero, List.set_cons_succ, i64_w, i32_w]
                    rfl
                  refine pure_ (i := 2) (N := some 31) (v := ?_) (a' := ?_) #[true, false, true, false, false, false, false, false, false, false, false] rfl rfl (any_of HT_.out (by kernel_rfl)) (fun _ _ _ h => h) (Or.inl ⟨by rfl, ?_⟩) ?_ ?_
                  rotate_left
                  · intro w'
                    go_simp
                    with_reducible rfl
                  rotate_left
                  · simp only [Act.put, List.setIfInBounds_toArray, List.set_cons_zero, List.set_cons_succ, i64_w, i32_w]
                    rfl
                  refine pure_ (i := 3) (N := some 32) (v := ?_) (a' := ?_) #[true, false, true, true, false, false, false, false, false, false, false] rfl rfl (any_of HT_.out (by kernel_rfl)) (fun _ _ _ h => h) (Or.inl ⟨by rfl, ?_⟩) ?_ ?_
                  rotate_left
                  · intro w'
                    go_simp
                    with_reducible rfl
                  rotate_left
                  · simp only [Act.put, List.setIfInBounds_toArray, List.set_cons_zero, List.set_cons_succ, i64_w, i32_w]
                    rfl
                  refine pure_ (i := 4) (N := some 33) (v := ?_) (a' := ?_) #[true, false, true, true, true, false, false, false, false, false, false] rfl rfl (any_of HT_.out (by kernel_rfl)) (fun _ _ _ h => h) (Or.inl ⟨by rfl, ?_⟩) ?_ ?_
                  rotate_left
                  · intro w'
                    go_simp
                    with_reducible rfl
                  rotate_left
                  · simp only [Act.put, List.setIfInBounds_toArray, List.set_cons_zero, List.set_cons_succ, i64_w, i32_w]
                    rfl
                  refine pure_ (i := 5) (N := some 34) (v := ?_) (a' := ?_) #[true, false, true, true, true, true, false, false, false, false, false] rfl rfl (any_of HT_.out (by kernel_rfl)) (fun _ _ _ h => h) (Or.inl ⟨by rfl, ?_⟩) ?_ ?_
                  rotate_left
                  · intro w'
                    go_simp
                    with_reducible rfl
                  rotate_left
                  · simp only [Act.put, List.setIfInBounds_toArray, List.set_cons_zero, List.set_cons_succ, i64_w, i32_w]
                    rfl
                  refine take_ (i := 1) (N := some 30) (v := ?_) (a' := ?_) #[true, true, true, true, true, true, false, false, false, false, false] rfl rfl (take_ofW HT_.out HW_.out (by kernel_rfl)) (fun _ _ _ h => h) (Or.inl ⟨by rfl, ?_⟩) hHeld ?_ ?_
                  rotate_left
                  · rintro w' ⟨s0, s1, s2, s3⟩
                    go_simp
                    with_reducible rfl
                  rotate_left
                  · simp only [Act.put, List.setIfInBounds_toArray, List.set_cons_zero, List.set_cons_succ, i64_w, i32_w]
                    rfl
                  refine one_ (i := 6) (N := some 35) #[true, true, true, true, true, true, true, false, false, false, false] rfl rfl (one_of HT_.out (by kernel_rfl)) (by decide) (fun K hK => ?_)
                  refine goes_ Tryd.func108 (by kernel_rfl) rfl #[.string a0, .int .i64 a1, .int .i64 x9_1, .int .i64 (((bt t228 x9_1) - 48) % 256)] (by rfl) rfl rfl (by (try simp only [List.map_toArray, List.map_cons, List.map_nil]); first | done | rfl | (simp only [List.length_drop, List.length_take]; rfl)) ?_
                  with_reducible refine (spec_l03Secret.calls a0 a1 x9_1 (((bt t228 x9_1) - 48) % 256) t239 _ A23.out).mono ?_
                  rintro e w30 ⟨rfl, hb⟩
                  refine ⟨_, rfl, ?_⟩
                  have n0_ := qk7 (Kd.R_below (by (with_reducible repeat (first | apply qd7 | apply qe7 | apply qf7)); exact HO_239001.out) hb)
                  have n1_ := qk7 (Kd.R_below (by (with_reducible repeat (first | apply qd7 | apply qe7 | apply qf7)); exact HO_239002.out) hb)
                  have n2_ := qk7 (Kd.R_below (by (with_reducible repeat (first | apply qd7 | apply qe7 | apply qf7)); exact HO_239003.out) hb)
                  have n3_ := qk7 (blk_below (g := gb227) (o := .cells #[.int .i64 0, .slice none 0 0, .slice none 0 0, .slice none 0 0] 33 (0, 0)) (by (with_reducible repeat (first | apply qa7 | apply qb7 | apply qc7)); exact BK227.out) hb)
                  have n4_ := qk7 (blk_below (g := gb238) (o := .cells #[.int .i64 a1, u239001, u239002, .slice Ao13 y235.length co13] 33 (0, 0)) (by (with_reducible repeat (first | apply qa7 | apply qb7 | apply qc7)); exact BK238.out) hb)
                  have n5_ := qk7 (below_step (by repeat (first | (with_reducible first | exact HB.out | apply qg7 | apply qh7 | apply qi7 | refine qj7 ?_ GE227.out | refine qj7 ?_ GE238.out) | exact HB.out)) hb)
                  clear HO_239001
                  clear HO_239002
                  clear HO_239003
                  clear BK227
                  clear BK238
                  clear HB
                  have HO_239001 := n0_
                  have HO_239002 := n1_
                  have HO_239003 := n2_
                  have BK227 := n3_
                  have BK238 := n4_
                  have HB := n5_
                  clear n0_ n1_ n2_ n3_ n4_ n5_
                  (try clear hb)
                  (try clear hb2)
                  (try clear hk)
                  (try clear hi)
                  refine hK.out _ _ ⟨(blk_cell BK238.out 0).trans rfl, (blk_cell BK238.out 1).trans rfl, (blk_cell BK238.out 2).trans rfl, (blk_cell BK238.out 3).trans rfl⟩ (fun hHeld => ?_)
                  clear hK K
                  refine norm_ (a' := ?_) ?_ ?_
                  rotate_left
                  · show Act.put _ (some 35) _ = _
                    simp only [Act.put, List.setIfInBounds_toArray, List.set_cons_zero, List.set_cons_succ, i64_w, i32_w]
                    rfl
                  refine one_ (i := 7) (N := some 36) #[true, true, true, true, true, true, true, true, false, false, false] rfl rfl (one_of HT_.out (by kernel_rfl)) (by decide) (fun K hK => ?_)
                  refine value_ (w1 := ?_) (v := ?_) (by rfl) rfl ?_ ?_
                  rotate_left 2
                  · go_simp
                    constructor
                    · rfl
                    · rfl
                  refine hK.out _ _ ⟨(blk_cell (qc7 BK238.out _) 0).trans rfl, (blk_cell (qc7 BK238.out _) 1).trans rfl, (blk_cell (qc7 BK238.out _) 2).trans rfl, (blk_cell (qc7 BK238.out _) 3).trans rfl⟩ (fun hHeld => ?_)
                  clear hK K
                  refine norm_ (a' := ?_) ?_ ?_
                  rotate_left
                  · show Act.put _ (some 36) _ = _
                    simp only [Act.put, List.setIfInBounds_toArray, List.set_cons_zero, List.set_cons_succ, i64_w, i32_w]
                    rfl
                  refine one_ (i := 8) (N := some 37) #[true, true, true, true, true, true, true, true, true, false, false] rfl rfl (one_of HT_.out (by kernel_rfl)) (by decide) (fun K hK => ?_)
                  refine Kd.R_append_step Kd.string (w0 := w) w.heap.size (by rfl) (.tmp 30) (.tmp 36) 31 9 (.string ⟨#[]⟩) 16 rfl Tryd.underlying31 info9 rfl (by decide) (by omega) u239001 x239001_1 t239 [.string t239] (fun k_ => some k_ ≠ (u239002 : Value).ownBlock ∧ some k_ ≠ (.slice Ao13 y235.length co13 : Value).ownBlock) (fun _ => False) rfl rfl ?aP (fun _ hk => hk.elim) ?aF ?aO ?aB ?aS ?aL ?_
                  (case aP => exact rfl)
                  (case aB => exact (by repeat (first | (with_reducible first | exact HB.out | apply qg7 | apply qh7 | apply qi7 | refine qj7 ?_ GE227.out | refine qj7 ?_ GE238.out) | exact HB.out)))
                  (case aF => exact (fun k_ hk => ⟨Kd.fresh' (Kd.R_lt (by (with_reducible repeat (first | apply qd7 | apply qe7 | apply qf7)); exact HO_239002.out)) k_ hk, Kd.fresh' (Kd.R_lt (by (with_reducible repeat (first | apply qd7 | apply qe7 | apply qf7)); exact HO_239003.out)) k_ hk⟩))
                  (case aO => exact (by (with_reducible repeat (first | apply qd7 | apply qe7 | apply qf7)); exact HO_239001.out))
                  (case aS => exact (below_size (by repeat (first | (with_reducible first | exact HB.out | apply qg7 | apply qh7 | apply qi7 | refine qj7 ?_ GE227.out | refine qj7 ?_ GE238.out) | exact HB.out))))
                  (case aL => have := LMc24.out; omega)
                  intro v241 w31 ho hb hg hat
                  rw [← Ny240.out] at ho
                  have n0_ := qk7 (Kd.R_after (ok := (fun k_ => some k_ ≠ (.slice Ao13 y235.length co13 : Value).ownBlock)) (by (with_reducible repeat (first | apply qd7 | apply qe7 | apply qf7)); exact qm7 HO_239002.out (fun _ hk => ⟨hk.2, hk.1⟩)) hg hat)
                  have n1_ := qk7 (Kd.R_after (ok := (fun k_ => some k_ ≠ (u239002 : Value).ownBlock)) (by (with_reducible repeat (first | apply qd7 | apply qe7 | apply qf7)); exact qm7 HO_239003.out (fun _ hk => ⟨hk.2, hk.1⟩)) hg hat)
                  have n2_ := qk7 (blk_grown (g := gb227) (o := .cells #[.int .i64 0, .slice none 0 0, .slice none 0 0, .slice none 0 0] 33 (0, 0)) (by (with_reducible repeat (first | apply qa7 | apply qb7 | apply qc7)); exact BK227.out) hg (Kd.R_ne HO_239001.out BK227.out (by decide)))
                  have n3_ := qk7 (blk_grown (g := gb238) (o := .cells #[.int .i64 a1, u239001, u239002, .slice Ao13 y235.length co13] 33 (0, 0)) (by (with_reducible repeat (first | apply qa7 | apply qb7 | apply qc7)); exact BK238.out) hg (Kd.R_ne HO_239001.out BK238.out (by decide)))
                  have n4_ := qk7 (hb)
                  have n5_ := qk7 (ho)
                  clear HO_239002
                  clear HO_239003
                  clear BK227
                  clear BK238
                  clear HB
                  clear HO_239001
                  have HO_239002 := n0_
                  have HO_239003 := n1_
                  have BK227 := n2_
                  have BK238 := n3_
                  have HB := n4_
                  have HO242 := n5_
                  clear n0_ n1_ n2_ n3_ n4_ n5_
                  clear ho hb hg hat
                  obtain ⟨Ao32, co32, eo32⟩ := Kd.R_slice HO242.out
                  (first | subst eo32 | (injection eo32 with f1_ f2_ f3_; have f4_ := f1_.symm; have f5_ := f3_.symm; clear f1_ f2_ f3_; subst f4_; subst f5_))
                  refine hK.out _ _ ⟨(blk_cell BK238.out 0).trans rfl, (blk_cell BK238.out 1).trans rfl, (blk_cell BK238.out 2).trans rfl, (blk_cell BK238.out 3).trans rfl⟩ (fun hHeld => ?_)
                  clear hK K
                  refine norm_ (a' := ?_) ?_ ?_
                  rotate_left
                  · show Act.put _ (some 37) _ = _
                    simp only [Act.put, List.setIfInBounds_toArray, List.set_cons_zero, List.set_cons_succ, i64_w, i32_w]
                    rfl
                  refine pure_ (i := 9) (N := some 38) (v := ?_) (a' := ?_) #[true, true, true, true, true, true, true, true, true, true, false] rfl rfl (any_of HT_.out (by kernel_rfl)) (fun _ _ _ h => h) (Or.inl ⟨by rfl, ?_⟩) ?_ ?_
                  rotate_left
                  · intro w'
                    go_simp
                    with_reducible rfl
                  rotate_left
                  · simp only [Act.put, List.setIfInBounds_toArray, List.set_cons_zero, List.set_cons_succ, i64_w, i32_w]
                    rfl
                  refine last_ (i := 10) (N := none) #[true, true, true, true, true, true, true, true, true, true, true] rfl rfl (one_of HT_.out (by kernel_rfl)) (by decide) (fun K hK => ?_)
                  have hs33 : w31.cell? ⟨gb238, 1, none⟩ = some (u239001) := (blk_cell BK238.out 1).trans rfl
                  have hfs33 := blk_frozen BK238.out 1
                  have hns33_0 := NB227_238.out
                  have hms33_0 := NB238_227.out
                  refine skip_ (w1 := ?_) (by rfl) rfl ?_ ?_
                  rotate_left
                  · go_simp
                    rfl
                  refine hK.out _ _ ?_
                  clear hK K
                  refine done_ (done_of HT_.out (by kernel_rfl)) ?_
                  try go_wp2
                  have n0_ : Aside0 (Kd.R Kd.string 9 (w31.setCell ⟨gb238, 1, none⟩ (.slice Ao32 y240.length co32)) w.heap.size (fun k_ => some k_ ≠ (.slice Ao13 y235.length co13 : Value).ownBlock ∧ some k_ ≠ (.slice Ao32 y240.length co32 : Value).ownBlock) u239002 x239002_1) := ⟨by (with_reducible repeat (first | apply qd7 | apply qe7 | apply qf7)); exact qm7 (ql7 (p := ⟨gb238, 1, none⟩) (Kd.R_types HO_239002.out BK238.out (by decide)) (fun _ hk => hk.2) (.slice Ao32 y240.length co32)) (fun _ hk => ⟨hk.1.1, hk.1.2⟩)⟩
                  have n1_ : Aside0 (Kd.R Kd.string 9 (w31.setCell ⟨gb238, 1, none⟩ (.slice Ao32 y240.length co32)) w.heap.size (fun k_ => some k_ ≠ (u239002 : Value).ownBlock ∧ some k_ ≠ (.slice Ao32 y240.length co32 : Value).ownBlock) (.slice Ao13 y235.length co13) y235) := ⟨by (with_reducible repeat (first | apply qd7 | apply qe7 | apply qf7)); exact qm7 (ql7 (p := ⟨gb238, 1, none⟩) (Kd.R_types HO_239003.out BK238.out (by decide)) (fun _ hk => hk.2) (.slice Ao32 y240.length co32)) (fun _ hk => ⟨hk.1.1, hk.1.2⟩)⟩
                  have n2_ : Aside0 (Kd.R Kd.string 9 (w31.setCell ⟨gb238, 1, none⟩ (.slice Ao32 y240.length co32)) w.heap.size (fun k_ => some k_ ≠ (u239002 : Value).ownBlock ∧ some k_ ≠ (.slice Ao13 y235.length co13 : Value).ownBlock) (.slice Ao32 y240.length co32) y240) := ⟨by (with_reducible repeat (first | apply qd7 | apply qe7 | apply qf7)); exact qm7 (ql7 (p := ⟨gb238, 1, none⟩) (Kd.R_types HO242.out BK238.out (by decide)) (fun _ hk => hk.2) (.slice Ao32 y240.length co32)) (fun _ hk => ⟨hk.1.1, hk.1.2⟩)⟩
                  have n3_ : Aside0 ((w31.setCell ⟨gb238, 1, none⟩ (.slice Ao32 y240.length co32)).heap[gb227]? = some (.cells #[.int .i64 0, .slice none 0 0, .slice none 0 0, .slice none 0 0] 33 (0, 0))) := ⟨by (with_reducible repeat (first | apply qa7 | apply qb7 | apply qc7)); refine blk_far ?_ NB227_238.out _; (with_reducible repeat (first | apply qa7 | apply qb7 | apply qc7)); exact BK227.out⟩
                  have n4_ : Aside0 ((w31.setCell ⟨gb238, 1, none⟩ (.slice Ao32 y240.length co32)).heap[gb238]? = some (.cells #[.int .i64 a1, .slice Ao32 y240.length co32, u239002, .slice Ao13 y235.length co13] 33 (0, 0))) := ⟨by (with_reducible repeat (first | apply qa7 | apply qb7 | apply qc7)); refine blk_put (cs := #[.int .i64 a1, u239001, u239002, .slice Ao13 y235.length co13]) ?_ 1 _ rfl; (with_reducible repeat (first | apply qa7 | apply qb7 | apply qc7)); exact BK238.out⟩
                  have n5_ : Aside0 (Below w.heap.size w (w31.setCell ⟨gb238, 1, none⟩ (.slice Ao32 y240.length co32))) := ⟨by repeat (first | (with_reducible first | exact HB.out | apply qg7 | apply qh7 | apply qi7 | refine qj7 ?_ GE227.out | refine qj7 ?_ GE238.out) | exact HB.out)⟩
                  (try clear HO_239002)
                  (try clear HO_239003)
                  (try clear HO242)
                  (try clear BK227)
                  (try clear BK238)
                  (try clear HB)
                  generalize (w31.setCell ⟨gb238, 1, none⟩ (.slice Ao32 y240.length co32)) = w34 at n0_ n1_ n2_ n3_ n4_ n5_ ⊢
                  have HO_239002 := n0_
                  have HO_239003 := n1_
                  have HO242 := n2_
                  have BK227 := n3_
                  have BK238 := n4_
                  have HB := n5_
                  clear n0_ n1_ n2_ n3_ n4_ n5_
                  have n0_ := qk7 (qf7 HO_239002.out)
                  have n1_ := qk7 (qf7 HO_239003.out)
                  have n2_ := qk7 (qf7 HO242.out)
                  have n3_ := qk7 (qb7 BK227.out)
                  have n4_ := qk7 (qb7 BK238.out)
                  have n5_ := qk7 (qi7 HB.out)
                  clear HO_239002
                  clear HO_239003
                  clear HO242
                  clear BK227
                  clear BK238
                  clear HB
                  have HO_239002 := n0_
                  have HO_239003 := n1_
                  have HO242 := n2_
                  have BK227 := n3_
                  have BK238 := n4_
                  have HB := n5_
                  clear n0_ n1_ n2_ n3_ n4_ n5_
                  refine start_ (n := 14) (S := fun w' => w'.cell? ⟨gb238, 0, none⟩ = some (.int .i64 a1) ∧ w'.cell? ⟨gb238, 1, none⟩ = some (.slice Ao32 y240.length co32) ∧ w'.cell? ⟨gb238, 2, none⟩ = some (u239002) ∧ w'.cell? ⟨gb238, 3, none⟩ = some (.slice Ao13 y235.length co13)) (ds := [13]) #[false, false, false, false, false, false, false, false, false, false, false, false, false, false] (by kernel_rfl) rfl rfl ⟨(blk_cell BK238.out 0).trans rfl, (blk_cell BK238.out 1).trans rfl, (blk_cell BK238.out 2).trans rfl, (blk_cell BK238.out 3).trans rfl⟩ (fun hHeld => ?_); refine with_tabW spec_l03Sign.tab8 spec_l03Sign.bits8 (fun HT_ HW_ => ?_)
                  generalize w34.drew = w35 at HO_239002 HO_239003 HO242 BK227 BK238 HB hHeld ⊢
                  refine pure_ (i := 0) (N := some 39) (v := ?_) (a' := ?_) #[true, false, false, false, false, false, false, false, false, false, false, false, false, false] rfl rfl (any_of HT_.out (by kernel_rfl)) (fun _ _ _ h => h) (Or.inl ⟨by rfl, ?_⟩) ?_ ?_
                  rotate_left
                  · intro w'
                    go_simp
                    with_reducible rfl
                  rotate_left
                  · simp only [Act.put, List.setIfInBounds_toArray, List.set_cons_zero, List.set_cons_succ, i64_w, i32_w]
                    rfl
                  refine pure_ (i := 2) (N := some 41) (v := ?_) (a' := ?_) #[true, false, true, false, false, false, false, false, false, false, false, false, false, false] rfl rfl (any_of HT_.out (by kernel_rfl)) (fun _ _ _ h => h) (Or.inl ⟨by rfl, ?_⟩) ?_ ?_
                  rotate_left
                  · intro w'
                    go_simp
                    with_reducible rfl
                  rotate_left
                  · simp only [Act.put, List.setIfInBounds_toArray, List.set_cons_zero, List.set_cons_succ, i64_w, i32_w]
                    rfl
                  refine pure_ (i := 3) (N := some 42) (v := ?_) (a' := ?_) #[true, false, true, true, false, false, false, false, false, false, false, false, false, false] rfl rfl (any_of HT_.out (by kernel_rfl)) (fun _ _ _ h => h) (Or.inl ⟨by rfl, ?_⟩) ?_ ?_
                  rotate_left
                  · intro w'
                    go_simp
                    with_reducible rfl
                  rotate_left
                  · simp only [Act.put, List.setIfInBounds_toArray, List.set_cons_zero, List.set_cons_succ, i64_w, i32_w]
                    rfl
                  refine pure_ (i := 4) (N := some 43) (v := ?_) (a' := ?_) #[true, false, true, true, true, false, false, false, false, false, false, false, false, false] rfl rfl (any_of HT_.out (by kernel_rfl)) (fun _ _ _ h => h) (Or.inl ⟨by rfl, ?_⟩) ?_ ?_
                  rotate_left
                  · intro w'
                    go_simp
                    with_reducible rfl
                  rotate_left
                  · simp only [Act.put, List.setIfInBounds_toArray, List.set_cons_zero, List.set_cons_succ, i64_w, i32_w]
                    rfl
                  refine pure_ (i := 5) (N := some 44) (v := ?_) (a' := ?_) #[true, false, true, true, true, true, false, false, false, false, false, false, false, false] rfl rfl (any_of HT_.out (by kernel_rfl)) (fun _ _ _ h => h) (Or.inl ⟨by rfl, ?_⟩) ?_ ?_
                  rotate_left
                  · intro w'
                    go_simp
                    with_reducible rfl
                  rotate_left
                  · simp only [Act.put, List.setIfInBounds_toArray, List.set_cons_zero, List.set_cons_succ, i64_w, i32_w]
                    rfl
                  refine pure_ (i := 6) (N := some 45) (v := ?_) (a' := ?_) #[true, false, true, true, true, true, true, false, false, false, false, false, false, false] rfl rfl (any_of HT_.out (by kernel_rfl)) (fun _ _ _ h => h) (Or.inl ⟨by rfl, ?_⟩) ?_ ?_
                  rotate_left
                  · intro w'
                    go_simp
                    with_reducible rfl
                  rotate_left
                  · simp only [Act.put, List.setIfInBounds_toArray, List.set_cons_zero, List.set_cons_succ, i64_w, i32_w]
                    rfl
                  refine take_ (i := 1) (N := some 40) (v := ?_) (a' := ?_) #[true, true, true, true, true, true, true, false, false, false, false, false, false, false] rfl rfl (take_ofW HT_.out HW_.out (by kernel_rfl)) (fun _ _ _ h => h) (Or.inl ⟨by rfl, ?_⟩) hHeld ?_ ?_
                  rotate_left
                  · rintro w' ⟨s0, s1, s2, s3⟩
                    go_simp
                    with_reducible rfl
                  rotate_left
                  · simp only [Act.put, List.setIfInBounds_toArray, List.set_cons_zero, List.set_cons_succ, i64_w, i32_w]
                    rfl
                  refine one_ (i := 7) (N := some 46) #[true, true, true, true, true, true, true, true, false, false, false, false, false, false] rfl rfl (one_of HT_.out (by kernel_rfl)) (by decide) (fun K hK => ?_)
                  refine goes_ Tryd.func108 (by kernel_rfl) rfl #[.string a0, .int .i64 a1, .int .i64 x9_1, .int .i64 (wrap64 (1 - (((bt t228 x9_1) - 48) % 256)))] (by rfl) rfl rfl (by (try simp only [List.map_toArray, List.map_cons, List.map_nil]); first | done | rfl | (simp only [List.length_drop, List.length_take]; rfl)) ?_
                  with_reducible refine (spec_l03Secret.calls a0 a1 x9_1 (wrap64 (1 - (((bt t228 x9_1) - 48) % 256))) t243 _ A25.out).mono ?_
                  rintro e w36 ⟨rfl, hb⟩
                  refine ⟨_, rfl, ?_⟩
                  have n0_ := qk7 (Kd.R_below (by (with_reducible repeat (first | apply qd7 | apply qe7 | apply qf7)); exact HO_239002.out) hb)
                  have n1_ := qk7 (Kd.R_below (by (with_reducible repeat (first | apply qd7 | apply qe7 | apply qf7)); exact HO_239003.out) hb)
                  have n2_ := qk7 (Kd.R_below (by (with_reducible repeat (first | apply qd7 | apply qe7 | apply qf7)); exact HO242.out) hb)
                  have n3_ := qk7 (blk_below (g := gb227) (o := .cells #[.int .i64 0, .slice none 0 0, .slice none 0 0, .slice none 0 0] 33 (0, 0)) (by (with_reducible repeat (first | apply qa7 | apply qb7 | apply qc7)); exact BK227.out) hb)
                  have n4_ := qk7 (blk_below (g := gb238) (o := .cells #[.int .i64 a1, .slice Ao32 y240.length co32, u239002, .slice Ao13 y235.length co13] 33 (0, 0)) (by (with_reducible repeat (first | apply qa7 | apply qb7 | apply qc7)); exact BK238.out) hb)
                  have n5_ := qk7 (below_step (by repeat (first | (with_reducible first | exact HB.out | apply qg7 | apply qh7 | apply qi7 | refine qj7 ?_ GE227.out | refine qj7 ?_ GE238.out) | exact HB.out)) hb)
                  clear HO_239002
                  clear HO_239003
                  clear HO242
                  clear BK227
                  clear BK238
                  clear HB
                  have HO_239002 := n0_
                  have HO_239003 := n1_
                  have HO242 := n2_
                  have BK227 := n3_
                  have BK238 := n4_
                  have HB := n5_
                  clear n0_ n1_ n2_ n3_ n4_ n5_
                  (try clear hb)
                  (try clear hb2)
                  (try clear hk)
                  (try clear hi)
                  refine hK.out _ _ ⟨(blk_cell BK238.out 0).trans rfl, (blk_cell BK238.out 1).trans rfl, (blk_cell BK238.out 2).trans rfl, (blk_cell BK238.out 3).trans rfl⟩ (fun hHeld => ?_)
                  clear hK K
                  refine norm_ (a' := ?_) ?_ ?_
                  rotate_left
                  · show Act.put _ (some 46) _ = _
                    simp only [Act.put, List.setIfInBounds_toArray, List.set_cons_zero, List.set_cons_succ, i64_w, i32_w]
                    rfl
                  refine one_ (i := 8) (N := some 47) #[true, true, true, true, true, true, true, true, true, false, false, false, false, false] rfl rfl (one_of HT_.out (by kernel_rfl)) (by decide) (fun K hK => ?_)
                  refine R_bytes_step _ 5 (by rfl) (N := 47) rfl 9 22 _ rfl t243 rfl Tryd.underlying9 Tryd.underlying22 Tryd.underlying5 (ok := fun _ => True) trivial (of_decide_eq_true (by first | (with_reducible assumption) | assumption)) (Below.refl _ _) (Nat.le_refl _) ?_
                  intro v245 w37 ho38 hb hg_ hnew_
                  clear hg_ hnew_
                  (first | rw [← Ny244.out] at ho38 | (simp only [Int.reduceToNat] at ho38; rw [← Ny244.out] at ho38))
                  have n0_ := qk7 (Kd.R_below (by (with_reducible repeat (first | apply qd7 | apply qe7 | apply qf7)); exact HO_239002.out) hb)
                  have n1_ := qk7 (Kd.R_below (by (with_reducible repeat (first | apply qd7 | apply qe7 | apply qf7)); exact HO_239003.out) hb)
                  have n2_ := qk7 (Kd.R_below (by (with_reducible repeat (first | apply qd7 | apply qe7 | apply qf7)); exact HO242.out) hb)
                  have n3_ := qk7 (Kd.R_lower ho38 (below_size (by repeat (first | (with_reducible first | exact HB.out | apply qg7 | apply qh7 | apply qi7 | refine qj7 ?_ GE227.out | refine qj7 ?_ GE238.out) | exact HB.out))))
                  have n4_ := qk7 (blk_below (g := gb227) (o := .cells #[.int .i64 0, .slice none 0 0, .slice none 0 0, .slice none 0 0] 33 (0, 0)) (by (with_reducible repeat (first | apply qa7 | apply qb7 | apply qc7)); exact BK227.out) hb)
                  have n5_ := qk7 (blk_below (g := gb238) (o := .cells #[.int .i64 a1, .slice Ao32 y240.length co32, u239002, .slice Ao13 y235.length co13] 33 (0, 0)) (by (with_reducible repeat (first | apply qa7 | apply qb7 | apply qc7)); exact BK238.out) hb)
                  have n6_ := qk7 (below_step (by repeat (first | (with_reducible first | exact HB.out | apply qg7 | apply qh7 | apply qi7 | refine qj7 ?_ GE227.out | refine qj7 ?_ GE238.out) | exact HB.out)) hb)
                  clear HO_239002
                  clear HO_239003
                  clear HO242
                  clear BK227
                  clear BK238
                  clear HB
                  have HO_239002 := n0_
                  have HO_239003 := n1_
                  have HO242 := n2_
                  have HO246 := n3_
                  have BK227 := n4_
                  have BK238 := n5_
                  have HB := n6_
                  clear n0_ n1_ n2_ n3_ n4_ n5_ n6_
                  clear hb ho38
                  obtain ⟨Ao39, co39, eo39⟩ := Kd.R_slice HO246.out
                  (first | subst eo39 | (injection eo39 with f1_ f2_ f3_; have f4_ := f1_.symm; have f5_ := f3_.symm; clear f1_ f2_ f3_; subst f4_; subst f5_))
                  refine hK.out _ _ ⟨(blk_cell BK238.out 0).trans rfl, (blk_cell BK238.out 1).trans rfl, (blk_cell BK238.out 2).trans rfl, (blk_cell BK238.out 3).trans rfl⟩ (fun hHeld => ?_)
                  clear hK K
                  refine norm_ (a' := ?_) ?_ ?_
                  rotate_left
                  · show Act.put _ (some 47) _ = _
                    simp only [Act.put, List.setIfInBounds_toArray, List.set_cons_zero, List.set_cons_succ, i64_w, i32_w]
                    rfl
                  refine one_ (i := 9) (N := some 48) #[true, true, true, true, true, true, true, true, true, true, false, false, false, false] rfl rfl (one_of HT_.out (by kernel_rfl)) (by decide) (fun K hK => ?_)
                  refine goes_ Tryd.func54 (by kernel_rfl) rfl #[.slice Ao39 y244.length co39] (by rfl) rfl rfl (by (try simp only [List.map_toArray, List.map_cons, List.map_nil]); first | done | rfl | (simp only [List.length_drop, List.length_take]; rfl)) ?_
                  with_reducible refine (spec_l01Hash.calls _ _ y244 t247 _ ?side1 ?side2 A27.out).mono ?_
                  (case side1 => repeat (first | exact (Kd.R_reads' HO246.out).2.2 | (with_reducible refine Kd.C_alloc ?_ _) | (with_reducible refine Kd.C_drewN ?_ _) | (with_reducible refine Kd.C_drew ?_)))
                  (case side2 => exact (Kd.R_reads' HO246.out).2.1)
                  rintro e w40 ⟨rfl, hb⟩
                  refine ⟨_, rfl, ?_⟩
                  have n0_ := qk7 (Kd.R_below (by (with_reducible repeat (first | apply qd7 | apply qe7 | apply qf7)); exact HO_239002.out) hb)
                  have n1_ := qk7 (Kd.R_below (by (with_reducible repeat (first | apply qd7 | apply qe7 | apply qf7)); exact HO_239003.out) hb)
                  have n2_ := qk7 (Kd.R_below (by (with_reducible repeat (first | apply qd7 | apply qe7 | apply qf7)); exact HO242.out) hb)
                  have n3_ := qk7 (Kd.R_below (by (with_reducible repeat (first | apply qd7 | apply qe7 | apply qf7)); exact HO246.out) hb)
                  have n4_ := qk7 (blk_below (g := gb227) (o := .cells #[.int .i64 0, .slice none 0 0, .slice none 0 0, .slice none 0 0] 33 (0, 0)) (by (with_reducible repeat (first | apply qa7 | apply qb7 | apply qc7)); exact BK227.out) hb)
                  have n5_ := qk7 (blk_below (g := gb238) (o := .cells #[.int .i64 a1, .slice Ao32 y240.length co32, u239002, .slice Ao13 y235.length co13] 33 (0, 0)) (by (with_reducible repeat (first | apply qa7 | apply qb7 | apply qc7)); exact BK238.out) hb)
                  have n6_ := qk7 (below_step (by repeat (first | (with_reducible first | exact HB.out | apply qg7 | apply qh7 | apply qi7 | refine qj7 ?_ GE227.out | refine qj7 ?_ GE238.out) | exact HB.out)) hb)
                  clear HO_239002
                  clear HO_239003
                  clear HO242
                  clear HO246
                  clear BK227
                  clear BK238
                  clear HB
                  have HO_239002 := n0_
                  have HO_239003 := n1_
                  have HO242 := n2_
                  have HO246 := n3_
                  have BK227 := n4_
                  have BK238 := n5_
                  have HB := n6_
                  clear n0_ n1_ n2_ n3_ n4_ n5_ n6_
                  (try clear hb)
                  (try clear hb2)
                  (try clear hk)
                  (try clear hi)
                  refine hK.out _ _ ⟨(blk_cell BK238.out 0).trans rfl, (blk_cell BK238.out 1).trans rfl, (blk_cell BK238.out 2).trans rfl, (blk_cell BK238.out 3).trans rfl⟩ (fun hHeld => ?_)
                  clear hK K
                  refine norm_ (a' := ?_) ?_ ?_
                  rotate_left
                  · show Act.put _ (some 48) _ = _
                    simp only [Act.put, List.setIfInBounds_toArray, List.set_cons_zero, List.set_cons_succ, i64_w, i32_w]
                    rfl
                  refine one_ (i := 10) (N := some 49) #[true, true, true, true, true, true, true, true, true, true, true, false, false, false] rfl rfl (one_of HT_.out (by kernel_rfl)) (by decide) (fun K hK => ?_)
                  refine value_ (w1 := ?_) (v := ?_) (by rfl) rfl ?_ ?_
                  rotate_left 2
                  · go_simp
                    constructor
                    · rfl
                    · rfl
                  refine hK.out _ _ ⟨(blk_cell (qc7 BK238.out _) 0).trans rfl, (blk_cell (qc7 BK238.out _) 1).trans rfl, (blk_cell (qc7 BK238.out _) 2).trans rfl, (blk_cell (qc7 BK238.out _) 3).trans rfl⟩ (fun hHeld => ?_)
                  clear hK K
                  refine norm_ (a' := ?_) ?_ ?_
                  rotate_left
                  · show Act.put _ (some 49) _ = _
                    simp only [Act.put, List.setIfInBounds_toArray, List.set_cons_zero, List.set_cons_succ, i64_w, i32_w]
                    rfl
                  refine one_ (i := 11) (N := some 50) #[true, true, true, true, true, true, true, true, true, true, true, true, false, false] rfl rfl (one_of HT_.out (by kernel_rfl)) (by decide) (fun K hK => ?_)
                  refine Kd.R_append_step Kd.string (w0 := w) w.heap.size (by rfl) (.tmp 40) (.tmp 49) 31 9 (.string ⟨#[]⟩) 16 rfl Tryd.underlying31 info9 rfl (by decide) (by omega) u239002 x239002_1 t247 [.string t247] (fun k_ => some k_ ≠ (.slice Ao13 y235.length co13 : Value).ownBlock ∧ some k_ ≠ (.slice Ao32 y240.length co32 : Value).ownBlock) (fun _ => False) rfl rfl ?aP (fun _ hk => hk.elim) ?aF ?aO ?aB ?aS ?aL ?_
                  (case aP => exact rfl)
                  (case aB => exact (by repeat (first | (with_reducible first | exact HB.out | apply qg7 | apply qh7 | apply qi7 | refine qj7 ?_ GE227.out | refine qj7 ?_ GE238.out) | exact HB.out)))
                  (case aF => exact (fun k_ hk => ⟨Kd.fresh' (Kd.R_lt (by (with_reducible repeat (first | apply qd7 | apply qe7 | apply qf7)); exact HO_239003.out)) k_ hk, Kd.fresh' (Kd.R_lt (by (with_reducible repeat (first | apply qd7 | apply qe7 | apply qf7)); exact HO242.out)) k_ hk⟩))
                  (case aO => exact (by (with_reducible repeat (first | apply qd7 | apply qe7 | apply qf7)); exact HO_239002.out))
                  (case aS => exact (below_size (by repeat (first | (with_reducible first | exact HB.out | apply qg7 | apply qh7 | apply qi7 | refine qj7 ?_ GE227.out | refine qj7 ?_ GE238.out) | exact HB.out))))
                  (case aL => have := LMc28.out; omega)
                  intro v249 w41 ho hb hg hat
                  rw [← Ny248.out] at ho
                  have n0_ := qk7 (Kd.R_after (ok := (fun k_ => some k_ ≠ (.slice Ao32 y240.length co32 : Value).ownBlock)) (by (with_reducible repeat (first | apply qd7 | apply qe7 | apply qf7)); exact qm7 HO_239003.out (fun _ hk => ⟨hk.2, hk.1⟩)) hg hat)
                  have n1_ := qk7 (blk_grown (g := gb227) (o := .cells #[.int .i64 0, .slice none 0 0, .slice none 0 0, .slice none 0 0] 33 (0, 0)) (by (with_reducible repeat (first | apply qa7 | apply qb7 | apply qc7)); exact BK227.out) hg (Kd.R_ne HO_239002.out BK227.out (by decide)))
                  have n2_ := qk7 (blk_grown (g := gb238) (o := .cells #[.int .i64 a1, .slice Ao32 y240.length co32, u239002, .slice Ao13 y235.length co13] 33 (0, 0)) (by (with_reducible repeat (first | apply qa7 | apply qb7 | apply qc7)); exact BK238.out) hg (Kd.R_ne HO_239002.out BK238.out (by decide)))
                  have n3_ := qk7 (Kd.R_after (ok := (fun k_ => some k_ ≠ (.slice Ao13 y235.length co13 : Value).ownBlock)) (by (with_reducible repeat (first | apply qd7 | apply qe7 | apply qf7)); exact qm7 HO242.out (fun _ hk => ⟨hk.2, hk.1⟩)) hg hat)
                  have n4_ := qk7 (Kd.R_over' (by (with_reducible repeat (first | apply qd7 | apply qe7 | apply qf7)); exact HO246.out) (Kd.R_typed (by (with_reducible repeat (first | apply qd7 | apply qe7 | apply qf7)); exact HO_239002.out)) (by decide) hg)
                  have n5_ := qk7 (hb)
                  have n6_ := qk7 (ho)
                  clear HO_239003
                  clear BK227
                  clear BK238
                  clear HO242
                  clear HO246
                  clear HB
                  clear HO_239002
                  have HO_239003 := n0_
                  have BK227 := n1_
                  have BK238 := n2_
                  have HO242 := n3_
                  have HO246 := n4_
                  have HB := n5_
                  have HO250 := n6_
                  clear n0_ n1_ n2_ n3_ n4_ n5_ n6_
                  clear ho hb hg hat
                  obtain ⟨Ao42, co42, eo42⟩ := Kd.R_slice HO250.out
                  (first | subst eo42 | (injection eo42 with f1_ f2_ f3_; have f4_ := f1_.symm; have f5_ := f3_.symm; clear f1_ f2_ f3_; subst f4_; subst f5_))
                  refine hK.out _ _ ⟨(blk_cell BK238.out 0).trans rfl, (blk_cell BK238.out 1).trans rfl, (blk_cell BK238.out 2).trans rfl, (blk_cell BK238.out 3).trans rfl⟩ (fun hHeld => ?_)
                  clear hK K
                  refine norm_ (a' := ?_) ?_ ?_
                  rotate_left
                  · show Act.put _ (some 50) _ = _
                    simp only [Act.put, List.setIfInBounds_toArray, List.set_cons_zero, List.set_cons_succ, i64_w, i32_w]
                    rfl
                  refine pure_ (i := 12) (N := some 51) (v := ?_) (a' := ?_) #[true, true, true, true, true, true, true, true, true, true, true, true, true, false] rfl rfl (any_of HT_.out (by kernel_rfl)) (fun _ _ _ h => h) (Or.inl ⟨by rfl, ?_⟩) ?_ ?_
                  rotate_left
                  · intro w'
                    go_simp
                    with_reducible rfl
                  rotate_left
                  · simp only [Act.put, List.setIfInBounds_toArray, List.set_cons_zero, List.set_cons_succ, i64_w, i32_w]
                    rfl
                  refine last_ (i := 13) (N := none) #[true, true, true, true, true, true, true, true, true, true, true, true, true, true] rfl rfl (one_of HT_.out (by kernel_rfl)) (by decide) (fun K hK => ?_)
                  have hs43 : w41.cell? ⟨gb238, 2, none⟩ = some (u239002) := (blk_cell BK238.out 2).trans rfl
                  have hfs43 := blk_frozen BK238.out 2
                  have hns43_0 := NB227_238.out
                  have hms43_0 := NB238_227.out
                  refine skip_ (w1 := ?_) (by rfl) rfl ?_ ?_
                  rotate_left
                  · go_simp
                    rfl
                  refine hK.out _ _ ?_
                  clear hK K
                  refine done_ (done_of HT_.out (by kernel_rfl)) ?_
                  try go_wp2
                  go_roundg k1
                  case measure => have := HK1.out; omega
                  case rel => exact ⟨(wrap64 (x9_1 + 1)), (y240), (y248), (.slice Ao32 y240.length co32), (.slice Ao42 y248.length co42), (by first | rfl | (simp; done) | (simp [*]; done)), H', ⟨by have := HK1.out; omega⟩, ⟨by (with_reducible repeat (first | apply qd7 | apply qe7 | apply qf7)); exact qm7 (ql7 (p := ⟨gb238, 2, none⟩) (Kd.R_types HO242.out BK238.out (by decide)) (fun _ hk => hk.2) (.slice Ao42 y248.length co42)) (fun _ hk => ⟨hk.1.2, hk.1.1⟩)⟩, ⟨by (with_reducible repeat (first | apply qd7 | apply qe7 | apply qf7)); exact qm7 (ql7 (p := ⟨gb238, 2, none⟩) (Kd.R_types HO250.out BK238.out (by decide)) (fun _ hk => hk.2) (.slice Ao42 y248.length co42)) (fun _ hk => ⟨hk.1.2, hk.1.1⟩)⟩, ⟨by (with_reducible repeat (first | apply qd7 | apply qe7 | apply qf7)); exact qm7 (ql7 (p := ⟨gb238, 2, none⟩) (Kd.R_types HO_239003.out BK238.out (by decide)) (fun _ hk => hk.2) (.slice Ao42 y248.length co42)) (fun _ hk => ⟨hk.1.1, hk.1.2⟩)⟩, ⟨by (with_reducible repeat (first | apply qa7 | apply qb7 | apply qc7)); refine blk_far ?_ NB227_238.out _; (with_reducible repeat (first | apply qa7 | apply qb7 | apply qc7)); exact BK227.out⟩, ⟨by (with_reducible repeat (first | apply qa7 | apply qb7 | apply qc7)); refine blk_put (cs := #[.int .i64 a1, .slice Ao32 y240.length co32, u239002, .slice Ao13 y235.length co13]) ?_ 2 _ rfl; (with_reducible repeat (first | apply qa7 | apply qb7 | apply qc7)); exact BK238.out⟩, ⟨by repeat (first | (with_reducible first | exact HB.out | apply qg7 | apply qh7 | apply qi7 | refine qj7 ?_ GE227.out | refine qj7 ?_ GE238.out) | exact HB.out)⟩⟩
                · rw [if_neg c28] at H
                  exact absurd H (by simp)
              · rw [if_neg c26] at H
                exact absurd H (by simp)
            · rw [if_neg c24] at H
              exact absurd H (by simp)
          · rw [if_neg c21] at H
            exact absurd H (by simp)
        · rw [if_neg c20] at H
          exact absurd H (by simp)
      · rw [if_neg c19] at H
        have c19b0 : decide (x9_1 < 32) = false := decide_eq_false c19
        clear c19
        replace H := Option.bind_eq_some_iff.mp H
        obtain ⟨t251, A440, H⟩ := H
        replace H : (spec_l03Sign.l1 k1 a1 t251 a1 x239001_1 x239002_1 y235) = some (r1, r2, r3, r4) := H
        have A44 := qk7 A440
        clear A440
        have H' := qk7 H
        clear H
        go_wp2_with (first | ((with_reducible refine gate_callee (f := 70) rfl ?_); refine goesL_ (some 54) rfl rfl Tryd.func70 (by kernel_rfl) rfl #[.string a0] rfl (by (try simp only [List.map_toArray, List.map_cons, List.map_nil]); first | done | rfl | (simp only [List.length_drop, List.length_take]; rfl)) ?_; (with_reducible refine (spec_l03Keys.calls k1 a0 t251 _ A44.out).mono ?_); rintro e w45 ⟨v252, rfl, ho0, hb⟩; refine ⟨_, rfl, ?_⟩; have n0_ := qk7 (Kd.R_elder' (by (with_reducible repeat (first | apply qd7 | apply qe7 | apply qf7)); exact HO_239001.out) (Kd.R_base ho0) hb); have n1_ := qk7 (Kd.R_elder' (by (with_reducible repeat (first | apply qd7 | apply qe7 | apply qf7)); exact HO_239002.out) (Kd.R_base ho0) hb); have n2_ := qk7 (Kd.R_elder' (by (with_reducible repeat (first | apply qd7 | apply qe7 | apply qf7)); exact HO_239003.out) (Kd.R_base ho0) hb); have n3_ := qk7 (Kd.R_lower (Kd.R_new' (Kd.R_new' (Kd.R_new' ho0 (Kd.R_lt (by (with_reducible repeat (first | apply qd7 | apply qe7 | apply qf7)); exact HO_239001.out))) (Kd.R_lt (by (with_reducible repeat (first | apply qd7 | apply qe7 | apply qf7)); exact HO_239002.out))) (Kd.R_lt (by (with_reducible repeat (first | apply qd7 | apply qe7 | apply qf7)); exact HO_239003.out))) (below_size (by repeat (first | (with_reducible first | exact HB.out | apply qg7 | apply qh7 | apply qi7 | refine qj7 ?_ GE227.out | refine qj7 ?_ GE238.out) | exact HB.out)))); have n4_ := qk7 (blk_below (g := gb227) (o := .cells #[.int .i64 0, .slice none 0 0, .slice none 0 0, .slice none 0 0] 33 (0, 0)) (by (with_reducible repeat (first | apply qa7 | apply qb7 | apply qc7)); exact BK227.out) hb); have n5_ := qk7 (blk_below (g := gb238) (o := .cells #[.int .i64 a1, u239001, u239002, .slice Ao13 y235.length co13] 33 (0, 0)) (by (with_reducible repeat (first | apply qa7 | apply qb7 | apply qc7)); exact BK238.out) hb); have n6_ := qk7 (below_step (by repeat (first | (with_reducible first | exact HB.out | apply qg7 | apply qh7 | apply qi7 | refine qj7 ?_ GE227.out | refine qj7 ?_ GE238.out) | exact HB.out)) hb); clear HO_239001; clear HO_239002; clear HO_239003; clear BK227; clear BK238; clear HB; have HO_239001 := n0_; have HO_239002 := n1_; have HO_239003 := n2_; have HO253 := n3_; have BK227 := n4_; have BK238 := n5_; have HB := n6_; clear n0_ n1_ n2_ n3_ n4_ n5_ n6_; (try clear hb); (try clear hb2); (try clear hk); (try clear hi); (try clear ho0)))
        go_loopg [11, 12] k1 (fun kq v11 v12 w' => ∃ (x11_2 : Int) (x12_2 : List ByteArray) (x239003_2 : List ByteArray) (u239003 : Value), v11 = .int .i64 x11_2 ∧ Aside0 (spec_l03Sign.l1 kq x11_2 x12_2 a1 x239001_1 x239002_1 x239003_2 = some (r1, r2, r3, r4)) ∧ Aside0 (kq ≤ k1) ∧ Aside0 (Kd.R Kd.string 9 w' w.heap.size (fun k_ => some k_ ≠ (u239001 : Value).ownBlock ∧ some k_ ≠ (u239002 : Value).ownBlock ∧ some k_ ≠ (u239003 : Value).ownBlock) v12 x12_2) ∧ Aside0 (Kd.R Kd.string 9 w' w.heap.size (fun k_ => some k_ ≠ (v12 : Value).ownBlock ∧ some k_ ≠ (u239002 : Value).ownBlock ∧ some k_ ≠ (u239003 : Value).ownBlock) u239001 x239001_1) ∧ Aside0 (Kd.R Kd.string 9 w' w.heap.size (fun k_ => some k_ ≠ (v12 : Value).ownBlock ∧ some k_ ≠ (u239001 : Value).ownBlock ∧ some k_ ≠ (u239003 : Value).ownBlock) u239002 x239002_1) ∧ Aside0 (Kd.R Kd.string 9 w' w.heap.size (fun k_ => some k_ ≠ (v12 : Value).ownBlock ∧ some k_ ≠ (u239001 : Value).ownBlock ∧ some k_ ≠ (u239002 : Value).ownBlock) u239003 x239003_2) ∧ Aside0 (w'.heap[gb227]? = some (.cells #[.int .i64 0, (.slice none 0 0), (.slice none 0 0), (.slice none 0 0)] 33 (0, 0))) ∧ Aside0 (w'.heap[gb238]? = some (.cells #[.int .i64 a1, u239001, u239002, u239003] 33 (0, 0))) ∧ Aside0 (Below w.heap.size w w'))
        case atStart => exact ⟨(a1), (t251), (y235), (.slice Ao13 y235.length co13), (by first | rfl | (simp; done) | (simp [*]; done)), H', ⟨Nat.le_refl _⟩, ⟨by (with_reducible repeat (first | apply qd7 | apply qe7 | apply qf7)); exact qm7 HO253.out (fun _ hk => ⟨hk.1.1.2, ⟨hk.1.2, hk.2⟩⟩)⟩, ⟨by (with_reducible repeat (first | apply qd7 | apply qe7 | apply qf7)); exact qm7 HO_239001.out (fun _ hk => ⟨hk.2, ⟨hk.1.1, hk.1.2⟩⟩)⟩, ⟨by (with_reducible repeat (first | apply qd7 | apply qe7 | apply qf7)); exact qm7 HO_239002.out (fun _ hk => ⟨hk.2, ⟨hk.1.1, hk.1.2⟩⟩)⟩, ⟨by (with_reducible repeat (first | apply qd7 | apply qe7 | apply qf7)); exact qm7 HO_239003.out (fun _ hk => ⟨hk.2, ⟨hk.1.1, hk.1.2⟩⟩)⟩, ⟨by (with_reducible repeat (first | apply qa7 | apply qb7 | apply qc7)); exact BK227.out⟩, ⟨by (with_reducible repeat (first | apply qa7 | apply qb7 | apply qc7)); exact BK238.out⟩, ⟨by repeat (first | (with_reducible first | exact HB.out | apply qg7 | apply qh7 | apply qi7 | refine qj7 ?_ GE227.out | refine qj7 ?_ GE238.out) | exact HB.out)⟩⟩
        case round =>
          clear H'
          try clear c1
          try clear c2
          try clear p2
          try clear q2
          try clear hx2
          try clear c5
          try clear c6
          try clear p6
          try clear c7
          try clear c10
          try clear c17
          try clear c19
          try clear c19b0
          try clear c20
          try clear c20b0
          try clear c21
          try clear c21b0
          try clear p22
          try clear q22
          try clear hx22
          try clear c24
          try clear c26
          try clear c26b0
          try clear c26b1
          try clear c26b2
          try clear c28
          try clear hcz18_0
          try clear hcz18_1
          try clear hcz18_2
          try clear hcz18_3
          try clear hfz18_0
          try clear hfz18_1
          try clear hfz18_2
          try clear hfz18_3
          try clear p2
          try clear p22
          try clear q22
          obtain ⟨x11_2, x12_2, x239003_2, u239003, rfl, HA, HK2, HO_12, HO_239001, HO_239002, HO_239003, BK227, BK238, HB⟩ := hrel
          cases gk with
          | zero => exact absurd HA.out (by simp [spec_l03Sign.l1])
          | succ k2 =>
            have H := HA.out
            clear HA
            simp only [spec_l03Sign.l1] at H
            by_cases c46 : (x12_2.length : Int) > 1
            · rw [if_pos c46] at H
              have c46b0 : decide (1 < (x12_2.length : Int)) = true := decide_eq_true c46
              have c46b1 : decide (1 < x12_2.length) = true := decide_eq_true (by omega)
              clear c46
              by_cases c47 : 0 ≤ (Go.bits .xor .i64 x11_2 1)
              · rw [if_pos c47] at H
                have c47b0 : decide (0 ≤ (Go.bits .xor .i64 x11_2 1)) = true := decide_eq_true c47
                clear c47
                by_cases c48 : (Go.bits .xor .i64 x11_2 1) < (x12_2.length : Int)
                · rw [if_pos c48] at H
                  have c48b0 : decide ((Go.bits .xor .i64 x11_2 1) < (x12_2.length : Int)) = true := decide_eq_true c48
                  clear c48
                  by_cases c49 : x239003_2.length < 8796093022208
                  · rw [if_pos c49] at H
                    have LMc49 := qk7 c49
                    clear c49
                    obtain ⟨y255, hy255⟩ : ∃ y_ : List ByteArray, y_ = (x239003_2 ++ [rdOf ByteArray.empty x12_2 (Go.bits .xor .i64 x11_2 1)]) := ⟨_, rfl⟩
                    replace H : ((spec_l03Level.f k2 x12_2).bind fun t258 => (spec_l03Sign.l1 k2 (wrap64 (Int.tdiv x11_2 2)) t258 a1 x239001_1 x239002_1 y255)) = some (r1, r2, r3, r4) := by first | (rw [hy255]; with_reducible exact H) | (have H2_ := (Option.bind_some _ _).symm.trans H; rw [hy255]; with_reducible exact H2_) | (have H2_ := (Option.bind_some _ _).symm.trans H; with_reducible exact H2_) | with_reducible exact H | (rw [hy255]; exact H) | exact H
                    have Ny255 := qk7 hy255
                    clear hy255
                    replace H := Option.bind_eq_some_iff.mp H
                    obtain ⟨t258, A500, H⟩ := H
                    replace H : (spec_l03Sign.l1 k2 (wrap64 (Int.tdiv x11_2 2)) t258 a1 x239001_1 x239002_1 y255) = some (r1, r2, r3, r4) := H
                    have A50 := qk7 A500
                    clear A500
                    have H' := qk7 H
                    clear H
                    obtain ⟨Ao51, co51, eo51⟩ := Kd.R_slice HO_12.out
                    subst eo51
                    try go_wp2
                    have n0_ := qk7 (qf7 HO_12.out)
                    have n1_ := qk7 (qf7 HO_239001.out)
                    have n2_ := qk7 (qf7 HO_239002.out)
                    have n3_ := qk7 (qf7 HO_239003.out)
                    have n4_ := qk7 (qb7 BK227.out)
                    have n5_ := qk7 (qb7 BK238.out)
                    have n6_ := qk7 (qi7 HB.out)
                    clear HO_12
                    clear HO_239001
                    clear HO_239002
                    clear HO_239003
                    clear BK227
                    clear BK238
                    clear HB
                    have HO_12 := n0_
                    have HO_239001 := n1_
                    have HO_239002 := n2_
                    have HO_239003 := n3_
                    have BK227 := n4_
                    have BK238 := n5_
                    have HB := n6_
                    clear n0_ n1_ n2_ n3_ n4_ n5_ n6_
                    have p254 : 0 ≤ ((Go.bits .xor .i64 x11_2 1) : Int) := of_decide_eq_true (by first | (with_reducible assumption) | assumption)
                    have q254 : (Go.bits .xor .i64 x11_2 1) < (x12_2.length : Int) := of_decide_eq_true (by first | (with_reducible assumption) | assumption)
                    obtain ⟨ad254, e254, hx254_0⟩ := Kd.at_string (Kd.R_reads' HO_12.out).2.2 (Go.bits .xor .i64 x11_2 1) p254 q254
                    cases e254
                    replace p254 := eq_true p254
                    replace q254 := eq_true q254
                    refine start_ (n := 11) (S := fun w' => w'.cell? ⟨gb238, 0, none⟩ = some (.int .i64 a1) ∧ w'.cell? ⟨gb238, 1, none⟩ = some (u239001) ∧ w'.cell? ⟨gb238, 2, none⟩ = some (u239002) ∧ w'.cell? ⟨gb238, 3, none⟩ = some (u239003) ∧ w'.cell? (ad254.add ((Go.bits .xor .i64 x11_2 1)).toNat) = some (.string (rdOf ByteArray.empty x12_2 (Go.bits .xor .i64 x11_2 1)))) (ds := [8, 10]) #[false, false, false, false, false, false, false, false, false, false, false] (by kernel_rfl) rfl rfl ⟨(blk_cell BK238.out 0).trans rfl, (blk_cell BK238.out 1).trans rfl, (blk_cell BK238.out 2).trans rfl, (blk_cell BK238.out 3).trans rfl, hx254_0⟩ (fun hHeld => ?_); refine with_tabW spec_l03Sign.tab13 spec_l03Sign.bits13 (fun HT_ HW_ => ?_)
                    generalize wr.drew = w52 at HO_12 HO_239001 HO_239002 HO_239003 BK227 BK238 HB hx254_0 hHeld ⊢
                    refine pure_ (i := 0) (N := some 60) (v := ?_) (a' := ?_) #[true, false, false, false, false, false, false, false, false, false, false] rfl rfl (any_of HT_.out (by kernel_rfl)) (fun _ _ _ h => h) (Or.inl ⟨by rfl, ?_⟩) ?_ ?_
                    rotate_left
                    · intro w'
                      go_simp
                      with_reducible rfl
                    rotate_left
                    · simp only [Act.put, List.setIfInBounds_toArray, List.set_cons_zero, List.set_cons_succ, i64_w, i32_w]
                      rfl
                    refine pure_ (i := 2) (N := some 62) (v := ?_) (a' := ?_) #[true, false, true, false, false, false, false, false, false, false, false] rfl rfl (any_of HT_.out (by kernel_rfl)) (fun _ _ _ h => h) (Or.inl ⟨by rfl, ?_⟩) ?_ ?_
                    rotate_left
                    · intro w'
                      go_simp
                      with_reducible rfl
                    rotate_left
                    · simp only [Act.put, List.setIfInBounds_toArray, List.set_cons_zero, List.set_cons_succ, i64_w, i32_w]
                      rfl
                    refine pure_ (i := 3) (N := some 63) (v := ?_) (a' := ?_) #[true, false, true, true, false, false, false, false, false, false, false] rfl rfl (any_of HT_.out (by kernel_rfl)) (fun _ _ _ h => h) (Or.inl ⟨by rfl, ?_⟩) ?_ ?_
                    rotate_left
                    · intro w'
                      go_simp
                      with_reducible rfl
                    rotate_left
                    · simp only [Act.put, List.setIfInBounds_toArray, List.set_cons_zero, List.set_cons_succ, i64_w, i32_w]
                      rfl
                    refine pure_ (i := 4) (N := some 64) (v := ?_) (a' := ?_) #[true, false, true, true, true, false, false, false, false, false, false] rfl rfl (any_of HT_.out (by kernel_rfl)) (fun _ _ _ h => h) (Or.inl ⟨by rfl, ?_⟩) ?_ ?_
                    rotate_left
                    · intro w'
                      go_simp
                      with_reducible rfl
                    rotate_left
                    · simp only [Act.put, List.setIfInBounds_toArray, List.set_cons_zero, List.set_cons_succ, i64_w, i32_w]
                      rfl
                    refine pure_ (i := 5) (N := some 65) (v := ?_) (a' := ?_) #[true, false, true, true, true, true, false, false, false, false, false] rfl rfl (any_of HT_.out (by kernel_rfl)) (fun _ _ _ h => h) (Or.inl ⟨by rfl, ?_⟩) ?_ ?_
                    rotate_left
                    · intro w'
                      go_simp
                      with_reducible rfl
                    rotate_left
                    · simp only [Act.put, List.setIfInBounds_toArray, List.set_cons_zero, List.set_cons_succ, i64_w, i32_w]
                      rfl
                    refine take_ (i := 1) (N := some 61) (v := ?_) (a' := ?_) #[true, true, true, true, true, true, false, false, false, false, false] rfl rfl (take_ofW HT_.out HW_.out (by kernel_rfl)) (fun _ _ _ h => h) (Or.inl ⟨by rfl, ?_⟩) hHeld ?_ ?_
                    rotate_left
                    · rintro w' ⟨s0, s1, s2, s3, s4⟩
                      go_simp
                      with_reducible rfl
                    rotate_left
                    · simp only [Act.put, List.setIfInBounds_toArray, List.set_cons_zero, List.set_cons_succ, i64_w, i32_w]
                      rfl
                    refine take_ (i := 6) (N := some 66) (v := ?_) (a' := ?_) #[true, true, true, true, true, true, true, false, false, false, false] rfl rfl (take_ofW HT_.out HW_.out (by kernel_rfl)) (fun _ _ _ h => h) (Or.inl ⟨by rfl, ?_⟩) hHeld ?_ ?_
                    rotate_left
                    · rintro w' ⟨s0, s1, s2, s3, s4⟩
                      go_simp
                      with_reducible rfl
                    rotate_left
                    · simp only [Act.put, List.setIfInBounds_toArray, List.set_cons_zero, List.set_cons_succ, i64_w, i32_w]
                      rfl
                    refine one_ (i := 7) (N := some 67) #[true, true, true, true, true, true, true, true, false, false, false] rfl rfl (one_of HT_.out (by kernel_rfl)) (by decide) (fun K hK => ?_)
                    refine value_ (w1 := ?_) (v := ?_) (by rfl) rfl ?_ ?_
                    rotate_left 2
                    · go_simp
                      constructor
                      · rfl
                      · rfl
                    refine hK.out _ _ ⟨(blk_cell (qc7 BK238.out _) 0).trans rfl, (blk_cell (qc7 BK238.out _) 1).trans rfl, (blk_cell (qc7 BK238.out _) 2).trans rfl, (blk_cell (qc7 BK238.out _) 3).trans rfl, (World.cell?_alloc_lt _ _ _ (World.block_lt_of_cell? _ _ (hHeld.2.2.2.2))).trans (hHeld.2.2.2.2)⟩ (fun hHeld => ?_)
                    clear hK K
                    refine norm_ (a' := ?_) ?_ ?_
                    rotate_left
                    · show Act.put _ (some 67) _ = _
                      simp only [Act.put, List.setIfInBounds_toArray, List.set_cons_zero, List.set_cons_succ, i64_w, i32_w]
                      rfl
                    refine last_ (i := 8) (N := some 68) #[true, true, true, true, true, true, true, true, true, false, false] rfl rfl (one_of HT_.out (by kernel_rfl)) (by decide) (fun K hK => ?_)
                    refine Kd.R_append_step Kd.string (w0 := w) w.heap.size (by rfl) (.tmp 61) (.tmp 67) 31 9 (.string ⟨#[]⟩) 16 rfl Tryd.underlying31 info9 rfl (by decide) (by omega) u239003 x239003_2 (rdOf ByteArray.empty x12_2 (Go.bits .xor .i64 x11_2 1)) [.string (rdOf ByteArray.empty x12_2 (Go.bits .xor .i64 x11_2 1))] (fun k_ => some k_ ≠ (.slice (some ad254) x12_2.length co51 : Value).ownBlock ∧ some k_ ≠ (u239001 : Value).ownBlock ∧ some k_ ≠ (u239002 : Value).ownBlock) (fun _ => False) rfl rfl ?aP (fun _ hk => hk.elim) ?aF ?aO ?aB ?aS ?aL ?_
                    (case aP => exact rfl)
                    (case aB => exact (by repeat (first | (with_reducible first | exact HB.out | apply qg7 | apply qh7 | apply qi7 | refine qj7 ?_ GE227.out | refine qj7 ?_ GE238.out) | exact HB.out)))
                    (case aF => exact (fun k_ hk => ⟨Kd.fresh' (Kd.R_lt (by (with_reducible repeat (first | apply qd7 | apply qe7 | apply qf7)); exact HO_12.out)) k_ hk, Kd.fresh' (Kd.R_lt (by (with_reducible repeat (first | apply qd7 | apply qe7 | apply qf7)); exact HO_239001.out)) k_ hk, Kd.fresh' (Kd.R_lt (by (with_reducible repeat (first | apply qd7 | apply qe7 | apply qf7)); exact HO_239002.out)) k_ hk⟩))
                    (case aO => exact (by (with_reducible repeat (first | apply qd7 | apply qe7 | apply qf7)); exact HO_239003.out))
                    (case aS => exact (below_size (by repeat (first | (with_reducible first | exact HB.out | apply qg7 | apply qh7 | apply qi7 | refine qj7 ?_ GE227.out | refine qj7 ?_ GE238.out) | exact HB.out))))
                    (case aL => have := LMc49.out; omega)
                    intro v256 w53 ho hb hg hat
                    rw [← Ny255.out] at ho
                    have n0_ := qk7 (Kd.R_after (ok := (fun k_ => some k_ ≠ (u239001 : Value).ownBlock ∧ some k_ ≠ (u239002 : Value).ownBlock)) (by (with_reducible repeat (first | apply qd7 | apply qe7 | apply qf7)); exact qm7 HO_12.out (fun _ hk => ⟨⟨hk.1, hk.2.1⟩, hk.2.2⟩)) hg hat)
                    have n1_ := qk7 (Kd.R_after (ok := (fun k_ => some k_ ≠ (.slice (some ad254) x12_2.length co51 : Value).ownBlock ∧ some k_ ≠ (u239002 : Value).ownBlock)) (by (with_reducible repeat (first | apply qd7 | apply qe7 | apply qf7)); exact qm7 HO_239001.out (fun _ hk => ⟨⟨hk.1, hk.2.1⟩, hk.2.2⟩)) hg hat)
                    have n2_ := qk7 (Kd.R_after (ok := (fun k_ => some k_ ≠ (.slice (some ad254) x12_2.length co51 : Value).ownBlock ∧ some k_ ≠ (u239001 : Value).ownBlock)) (by (with_reducible repeat (first | apply qd7 | apply qe7 | apply qf7)); exact qm7 HO_239002.out (fun _ hk => ⟨⟨hk.1, hk.2.1⟩, hk.2.2⟩)) hg hat)
                    have n3_ := qk7 (blk_grown (g := gb227) (o := .cells #[.int .i64 0, .slice none 0 0, .slice none 0 0, .slice none 0 0] 33 (0, 0)) (by (with_reducible repeat (first | apply qa7 | apply qb7 | apply qc7)); exact BK227.out) hg (Kd.R_ne HO_239003.out BK227.out (by decide)))
                    have n4_ := qk7 (blk_grown (g := gb238) (o := .cells #[.int .i64 a1, u239001, u239002, u239003] 33 (0, 0)) (by (with_reducible repeat (first | apply qa7 | apply qb7 | apply qc7)); exact BK238.out) hg (Kd.R_ne HO_239003.out BK238.out (by decide)))
                    have n5_ := qk7 (hb)
                    have n6_ := qk7 (ho)
                    clear HO_12
                    clear HO_239001
                    clear HO_239002
                    clear BK227
                    clear BK238
                    clear HB
                    clear HO_239003
                    have HO_12 := n0_
                    have HO_239001 := n1_
                    have HO_239002 := n2_
                    have BK227 := n3_
                    have BK238 := n4_
                    have HB := n5_
                    have HO257 := n6_
                    clear n0_ n1_ n2_ n3_ n4_ n5_ n6_
                    clear ho hb hg hat
                    obtain ⟨Ao54, co54, eo54⟩ := Kd.R_slice HO257.out
                    (first | subst eo54 | (injection eo54 with f1_ f2_ f3_; have f4_ := f1_.symm; have f5_ := f3_.symm; clear f1_ f2_ f3_; subst f4_; subst f5_))
                    refine hK.out _ _ ?_
                    clear hK K
                    refine norm_ (a' := ?_) ?_ ?_
                    rotate_left
                    · show Act.put _ (some 68) _ = _
                      simp only [Act.put, List.setIfInBounds_toArray, List.set_cons_zero, List.set_cons_succ, i64_w, i32_w]
                      rfl
                    refine pure_ (i := 9) (N := some 69) (v := ?_) (a' := ?_) #[true, true, true, true, true, true, true, true, true, true, false] rfl rfl (any_of HT_.out (by kernel_rfl)) (fun _ _ _ h => h) (Or.inl ⟨by rfl, ?_⟩) ?_ ?_
                    rotate_left
                    · intro w'
                      go_simp
                      with_reducible rfl
                    rotate_left
                    · simp only [Act.put, List.setIfInBounds_toArray, List.set_cons_zero, List.set_cons_succ, i64_w, i32_w]
                      rfl
                    refine last_ (i := 10) (N := none) #[true, true, true, true, true, true, true, true, true, true, true] rfl rfl (one_of HT_.out (by kernel_rfl)) (by decide) (fun K hK => ?_)
                    have hs55 : w53.cell? ⟨gb238, 3, none⟩ = some (u239003) := (blk_cell BK238.out 3).trans rfl
                    have hfs55 := blk_frozen BK238.out 3
                    have hns55_0 := NB227_238.out
                    have hms55_0 := NB238_227.out
                    refine skip_ (w1 := ?_) (by rfl) rfl ?_ ?_
                    rotate_left
                    · go_simp
                      rfl
                    refine hK.out _ _ ?_
                    clear hK K
                    refine done_ (done_of HT_.out (by kernel_rfl)) ?_
                    try go_wp2_with (first | ((with_reducible refine gate_callee (f := 109) rfl ?_); refine goesL_ (some 59) rfl rfl Tryd.func109 (by kernel_rfl) rfl #[.slice (some ad254) x12_2.length co51] rfl (by (try simp only [List.map_toArray, List.map_cons, List.map_nil]); first | done | rfl | (simp only [List.length_drop, List.length_take]; rfl)) ?_; (with_reducible refine (spec_l03Level.calls k2 _ _ x12_2 t258 _ ?side1 ?side2 A50.out).mono ?_); (case side1 => refine (Kd.R_reads' (e := 9) (base := w.heap.size) (ok := fun k_ => ((some k_ ≠ (u239001 : Value).ownBlock ∧ some k_ ≠ (u239002 : Value).ownBlock) ∧ some k_ ≠ (.slice Ao54 y255.length co54 : Value).ownBlock)) (n := x12_2.length) (c := co51) ?_).2.2; exact (by (with_reducible repeat (first | apply qd7 | apply qe7 | apply qf7)); exact (qm7 (ql7 (p := ⟨gb238, 3, none⟩) (Kd.R_types HO_12.out BK238.out (by decide)) (fun _ hk => hk.2) (.slice Ao54 y255.length co54)) (fun _ h_ => h_.1)))); (case side2 => exact (Kd.R_reads' HO_12.out).2.1); rintro e w56 ⟨v259, rfl, ho0, hb⟩; refine ⟨_, rfl, ?_⟩; have n0_ := qk7 (Kd.R_elder' (by (with_reducible repeat (first | apply qd7 | apply qe7 | apply qf7)); exact (qm7 (ql7 (p := ⟨gb238, 3, none⟩) (Kd.R_types HO_12.out BK238.out (by decide)) (fun _ hk => hk.2) (.slice Ao54 y255.length co54)) (fun _ h_ => h_.1))) (Kd.R_base ho0) hb); have n1_ := qk7 (Kd.R_elder' (by (with_reducible repeat (first | apply qd7 | apply qe7 | apply qf7)); exact (qm7 (ql7 (p := ⟨gb238, 3, none⟩) (Kd.R_types HO_239001.out BK238.out (by decide)) (fun _ hk => hk.2) (.slice Ao54 y255.length co54)) (fun _ h_ => h_.1))) (Kd.R_base ho0) hb); have n2_ := qk7 (Kd.R_elder' (by (with_reducible repeat (first | apply qd7 | apply qe7 | apply qf7)); exact (qm7 (ql7 (p := ⟨gb238, 3, none⟩) (Kd.R_types HO_239002.out BK238.out (by decide)) (fun _ hk => hk.2) (.slice Ao54 y255.length co54)) (fun _ h_ => h_.1))) (Kd.R_base ho0) hb); have n3_ := qk7 (Kd.R_elder' (by (with_reducible repeat (first | apply qd7 | apply qe7 | apply qf7)); exact (qm7 (ql7 (p := ⟨gb238, 3, none⟩) (Kd.R_types HO257.out BK238.out (by decide)) (fun _ hk => hk.2) (.slice Ao54 y255.length co54)) (fun _ h_ => h_.1))) (Kd.R_base ho0) hb); have n4_ := qk7 (Kd.R_lower (Kd.R_new' (Kd.R_new' (Kd.R_new' (Kd.R_new' ho0 (Kd.R_lt (by (with_reducible repeat (first | apply qd7 | apply qe7 | apply qf7)); exact (qm7 (ql7 (p := ⟨gb238, 3, none⟩) (Kd.R_types HO_12.out BK238.out (by decide)) (fun _ hk => hk.2) (.slice Ao54 y255.length co54)) (fun _ h_ => h_.1))))) (Kd.R_lt (by (with_reducible repeat (first | apply qd7 | apply qe7 | apply qf7)); exact (qm7 (ql7 (p := ⟨gb238, 3, none⟩) (Kd.R_types HO_239001.out BK238.out (by decide)) (fun _ hk => hk.2) (.slice Ao54 y255.length co54)) (fun _ h_ => h_.1))))) (Kd.R_lt (by (with_reducible repeat (first | apply qd7 | apply qe7 | apply qf7)); exact (qm7 (ql7 (p := ⟨gb238, 3, none⟩) (Kd.R_types HO_239002.out BK238.out (by decide)) (fun _ hk => hk.2) (.slice Ao54 y255.length co54)) (fun _ h_ => h_.1))))) (Kd.R_lt (by (with_reducible repeat (first | apply qd7 | apply qe7 | apply qf7)); exact (qm7 (ql7 (p := ⟨gb238, 3, none⟩) (Kd.R_types HO257.out BK238.out (by decide)) (fun _ hk => hk.2) (.slice Ao54 y255.length co54)) (fun _ h_ => h_.1))))) (below_size (by repeat (first | (with_reducible first | exact HB.out | apply qg7 | apply qh7 | apply qi7 | refine qj7 ?_ GE227.out | refine qj7 ?_ GE238.out) | exact HB.out)))); have n5_ := qk7 (blk_below (g := gb227) (o := .cells #[.int .i64 0, .slice none 0 0, .slice none 0 0, .slice none 0 0] 33 (0, 0)) (by (with_reducible repeat (first | apply qa7 | apply qb7 | apply qc7)); refine blk_far ?_ NB227_238.out _; (with_reducible repeat (first | apply qa7 | apply qb7 | apply qc7)); exact BK227.out) hb); have n6_ := qk7 (blk_below (g := gb238) (o := .cells #[.int .i64 a1, u239001, u239002, .slice Ao54 y255.length co54] 33 (0, 0)) (by (with_reducible repeat (first | apply qa7 | apply qb7 | apply qc7)); refine blk_put (cs := #[.int .i64 a1, u239001, u239002, u239003]) ?_ 3 _ rfl; (with_reducible repeat (first | apply qa7 | apply qb7 | apply qc7)); exact BK238.out) hb); have n7_ := qk7 (below_step (by repeat (first | (with_reducible first | exact HB.out | apply qg7 | apply qh7 | apply qi7 | refine qj7 ?_ GE227.out | refine qj7 ?_ GE238.out) | exact HB.out)) hb); clear HO_12; clear HO_239001; clear HO_239002; clear HO257; clear BK227; clear BK238; clear HB; have HO_12 := n0_; have HO_239001 := n1_; have HO_239002 := n2_; have HO257 := n3_; have HO260 := n4_; have BK227 := n5_; have BK238 := n6_; have HB := n7_; clear n0_ n1_ n2_ n3_ n4_ n5_ n6_ n7_; (try clear hb); (try clear hb2); (try clear hk); (try clear hi); (try clear ho0)))
                    go_roundg k2
                    case measure => have := HK1.out; have := HK2.out; omega
                    case rel => exact ⟨(wrap64 (Int.tdiv x11_2 2)), (t258), (y255), (.slice Ao54 y255.length co54), (by first | rfl | (simp; done) | (simp [*]; done)), H', ⟨by have := HK1.out; have := HK2.out; omega⟩, ⟨by (with_reducible repeat (first | apply qd7 | apply qe7 | apply qf7)); exact qm7 HO260.out (fun _ hk => ⟨hk.1.1.2, ⟨hk.1.2, hk.2⟩⟩)⟩, ⟨by (with_reducible repeat (first | apply qd7 | apply qe7 | apply qf7)); exact qm7 HO_239001.out (fun _ hk => ⟨hk.2, ⟨hk.1.1.2, hk.1.2⟩⟩)⟩, ⟨by (with_reducible repeat (first | apply qd7 | apply qe7 | apply qf7)); exact qm7 HO_239002.out (fun _ hk => ⟨hk.2, ⟨hk.1.1.2, hk.1.2⟩⟩)⟩, ⟨by (with_reducible repeat (first | apply qd7 | apply qe7 | apply qf7)); exact qm7 HO257.out (fun _ hk => ⟨hk.2, ⟨hk.1.2.1, hk.1.2.2⟩⟩)⟩, ⟨by (with_reducible repeat (first | apply qa7 | apply qb7 | apply qc7)); exact BK227.out⟩, ⟨by (with_reducible repeat (first | apply qa7 | apply qb7 | apply qc7)); exact BK238.out⟩, ⟨by repeat (first | (with_reducible first | exact HB.out | apply qg7 | apply qh7 | apply qi7 | refine qj7 ?_ GE227.out | refine qj7 ?_ GE238.out) | exact HB.out)⟩⟩
                  · rw [if_neg c49] at H
                    exact absurd H (by simp)
                · rw [if_neg c48] at H
                  exact absurd H (by simp)
              · rw [if_neg c47] at H
                exact absurd H (by simp)
            · rw [if_neg c46] at H
              have c46b0 : decide (1 < (x12_2.length : Int)) = false := decide_eq_false c46
              have c46b1 : decide (1 < x12_2.length) = false := decide_eq_false (by omega)
              clear c46
              simp only [Option.some.injEq, Prod.mk.injEq] at H
              obtain ⟨rfl, rfl, rfl, rfl⟩ := H
              obtain ⟨Ao57, co57, eo57⟩ := Kd.R_slice HO_12.out
              subst eo57
              have hnb58 := NB238_227.out
              have hnc58 := NB227_238.out
              have hcz59_0 : wr.cell? ⟨gb238, 0, none⟩ = some (.int .i64 a1) := (blk_cell BK238.out 0).trans rfl
              have hcz59_1 : wr.cell? ⟨gb238, 1, none⟩ = some (u239001) := (blk_cell BK238.out 1).trans rfl
              have hcz59_2 : wr.cell? ⟨gb238, 2, none⟩ = some (u239002) := (blk_cell BK238.out 2).trans rfl
              have hcz59_3 : wr.cell? ⟨gb238, 3, none⟩ = some (u239003) := (blk_cell BK238.out 3).trans rfl
              have hfz59_0 := blk_frozen BK238.out 0
              have hfz59_1 := blk_frozen BK238.out 1
              have hfz59_2 := blk_frozen BK238.out 2
              have hfz59_3 := blk_frozen BK238.out 3
              have hcz60_0 : wr.cell? ⟨gb227, 0, none⟩ = some (.int .i64 0) := (blk_cell BK227.out 0).trans rfl
              have hcz60_1 : wr.cell? ⟨gb227, 1, none⟩ = some (.slice none 0 0) := (blk_cell BK227.out 1).trans rfl
              have hcz60_2 : wr.cell? ⟨gb227, 2, none⟩ = some (.slice none 0 0) := (blk_cell BK227.out 2).trans rfl
              have hcz60_3 : wr.cell? ⟨gb227, 3, none⟩ = some (.slice none 0 0) := (blk_cell BK227.out 3).trans rfl
              have hfz60_0 := blk_frozen BK227.out 0
              have hfz60_1 := blk_frozen BK227.out 1
              have hfz60_2 := blk_frozen BK227.out 2
              have hfz60_3 := blk_frozen BK227.out 3
              obtain ⟨Ao61, co61, eo61⟩ := Kd.R_slice HO_239001.out
              subst eo61
              obtain ⟨Ao62, co62, eo62⟩ := Kd.R_slice HO_239002.out
              subst eo62
              obtain ⟨Ao63, co63, eo63⟩ := Kd.R_slice HO_239003.out
              subst eo63
              go_wp2
              refine bodyPost_ret (results_cell_row rfl _ _ gb227 33 #[.int .i64 a1, .slice Ao61 x239001_1.length co61, .slice Ao62 x239002_1.length co62, .slice Ao63 x239003_2.length co63] (0, 0) _ rfl (by (with_reducible repeat (first | apply qa7 | apply qb7 | apply qc7)); refine blk_put (cs := #[.int .i64 a1, .slice Ao61 x239001_1.length co61, .slice Ao62 x239002_1.length co62, .slice none 0 0]) ?_ 3 _ rfl; (with_reducible repeat (first | apply qa7 | apply qb7 | apply qc7)); refine blk_put (cs := #[.int .i64 a1, .slice Ao61 x239001_1.length co61, .slice none 0 0, .slice none 0 0]) ?_ 2 _ rfl; (with_reducible repeat (first | apply qa7 | apply qb7 | apply qc7)); refine blk_put (cs := #[.int .i64 a1, .slice none 0 0, .slice none 0 0, .slice none 0 0]) ?_ 1 _ rfl; (with_reducible repeat (first | apply qa7 | apply qb7 | apply qc7)); refine blk_put (cs := #[.int .i64 0, .slice none 0 0, .slice none 0 0, .slice none 0 0]) ?_ 0 _ rfl; (with_reducible repeat (first | apply qa7 | apply qb7 | apply qc7)); exact BK227.out) Tryd.underlying33 rfl (by kernel_rfl)) rfl ?_
              exact ⟨_, _, _, by first | rfl | (simp [errW_none, errW_some] <;> rfl) | (simp [*, errW_none, errW_some] <;> rfl), by (with_reducible repeat (first | apply qd7 | apply qe7 | apply qf7)); exact qm7 (ql7 (p := ⟨gb227, 3, none⟩) (ql7 (p := ⟨gb227, 2, none⟩) (ql7 (p := ⟨gb227, 1, none⟩) (ql7 (p := ⟨gb227, 0, none⟩) (Kd.R_types HO_239001.out BK227.out (by decide)) (fun _ hk => hk.2) (.int .i64 a1)) (fun _ hk => hk.2) (.slice Ao61 x239001_1.length co61)) (fun _ hk => hk.2) (.slice Ao62 x239002_1.length co62)) (fun _ hk => hk.2) (.slice Ao63 x239003_2.length co63)) (fun _ hk => ⟨hk.1.2.1, hk.1.2.2⟩), by (with_reducible repeat (first | apply qd7 | apply qe7 | apply qf7)); exact qm7 (ql7 (p := ⟨gb227, 3, none⟩) (ql7 (p := ⟨gb227, 2, none⟩) (ql7 (p := ⟨gb227, 1, none⟩) (ql7 (p := ⟨gb227, 0, none⟩) (Kd.R_types HO_239002.out BK227.out (by decide)) (fun _ hk => hk.2) (.int .i64 a1)) (fun _ hk => hk.2) (.slice Ao61 x239001_1.length co61)) (fun _ hk => hk.2) (.slice Ao62 x239002_1.length co62)) (fun _ hk => hk.2) (.slice Ao63 x239003_2.length co63)) (fun _ hk => ⟨hk.1.2.1, hk.1.2.2⟩), by (with_reducible repeat (first | apply qd7 | apply qe7 | apply qf7)); exact qm7 (ql7 (p := ⟨gb227, 3, none⟩) (ql7 (p := ⟨gb227, 2, none⟩) (ql7 (p := ⟨gb227, 1, none⟩) (ql7 (p := ⟨gb227, 0, none⟩) (Kd.R_types HO_239003.out BK227.out (by decide)) (fun _ hk => hk.2) (.int .i64 a1)) (fun _ hk => hk.2) (.slice Ao61 x239001_1.length co61)) (fun _ hk => hk.2) (.slice Ao62 x239002_1.length co62)) (fun _ hk => hk.2) (.slice Ao63 x239003_2.length co63)) (fun _ hk => ⟨hk.1.2.1, hk.1.2.2⟩), by repeat (first | (with_reducible first | exact HB.out | apply qg7 | apply qh7 | apply qi7 | refine qj7 ?_ GE227.out | refine qj7 ?_ GE238.out) | exact HB.out)⟩

end Go.Proofs.YtmkaknegjahjaaaDoor.PFnChain
