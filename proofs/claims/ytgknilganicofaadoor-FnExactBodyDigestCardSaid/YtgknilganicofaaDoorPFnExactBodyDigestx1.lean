-- laid by this session's program myprint.py over the kit's printer
import Derived.Test.YtgknilganicofaaDoorPFnExactBodyDigestx0
namespace Go.Proofs.YtgknilganicofaaDoor.PFnExactBodyDigest
open Go.RowKit Go.Proofs.YtgknilganicofaaDoorV.PrintWords Go.Proofs.YtgknilganicofaaDoorV.PrintLast Go.Proofs.YtgknilganicofaaDoorV.PrintMore
attribute [local go_sem] max2_int min2_int max_two min_two max_three min_three max_four min_four u8_wm u32_wm   -- for this text's walks alone
set_option linter.unusedVariables false
set_option linter.unusedSimpArgs false

/-! ### spec_l01Hash: function 52, given -/
def spec_l01Hash.f (l0 : List Int) : Option ByteArray := if l0.length ≤ 1099511627776 then some (Go.Proofs.YtgknilganicofaaDoor.Sha.shaB l0) else none
theorem spec_l01Hash.calls (A0 : Option Addr) (c0 : Nat) (l0 : List Int) (r : ByteArray) (w : World) (hr0 : Kd.C (Kd.int .u8) w A0 l0.length l0) (hc0 : l0.length ≤ c0) (h : spec_l01Hash.f l0 = some r) :
    Calls Tryd.prog 52 #[.slice A0 l0.length c0] w fun e w' => e = .returned (.string r) ∧ Below w.heap.size w w' := by
  have hs : l0.length ≤ 1099511627776 := by
    rcases Nat.lt_or_ge 1099511627776 l0.length with hl | hl
    · rw [spec_l01Hash.f, if_neg (by omega)] at h; cases h
    · exact hl
  rw [spec_l01Hash.f, if_pos hs] at h
  injection h with h
  subst h
  exact Go.Proofs.YtgknilganicofaaDoor.Sha.hashS_calls A0 c0 l0 w hr0 hs


/-! ### spec_l06Digest: function 54 -/
def spec_l06Digest.f (a0 : ByteArray) : Option (ByteArray) := if 5 + a0.size ≤ 9223372036854775807 then (if ((⟨#[98, 97, 116, 99, 104]⟩ : ByteArray) ++ a0).size ≤ 9223372036854775807 then ((spec_l01Hash.f (bytesOf ((⟨#[98, 97, 116, 99, 104]⟩ : ByteArray) ++ a0))).bind fun t104 => (some t104)) else (none)) else (none)
set_option maxHeartbeats 8000000 in
set_option maxRecDepth 100000 in
theorem spec_l06Digest.calls (a0 : ByteArray) (r : ByteArray) (w : World) (h : spec_l06Digest.f a0 = some r) :
    Calls Tryd.prog 54 #[.string a0] w fun e w' => e = .returned (.string r) ∧ Below w.heap.size w w' := by
  have HB := Aside0.mk (Below.refl w.heap.size w)
  have H : (if 5 + a0.size ≤ 9223372036854775807 then (if ((⟨#[98, 97, 116, 99, 104]⟩ : ByteArray) ++ a0).size ≤ 9223372036854775807 then ((spec_l01Hash.f (bytesOf ((⟨#[98, 97, 116, 99, 104]⟩ : ByteArray) ++ a0))).bind fun t104 => (some t104)) else (none)) else (none)) = some r := h
  clear h
  by_cases c2 : 5 + a0.size ≤ 9223372036854775807
  · rw [if_pos c2] at H
    have c2b0 := eq_true c2
    have c2b1 : decide (5 + a0.size ≤ 9223372036854775807) = true := decide_eq_true c2
    try have c2b2 : (9223372036854775807 < 5 + a0.size) = False := eq_false (Nat.not_lt.2 c2)
    by_cases c3 : ((⟨#[98, 97, 116, 99, 104]⟩ : ByteArray) ++ a0).size ≤ 9223372036854775807
    · rw [if_pos c3] at H
      have c3b0 := eq_true c3
      have c3b1 : decide (((⟨#[98, 97, 116, 99, 104]⟩ : ByteArray) ++ a0).size ≤ 9223372036854775807) = true := decide_eq_true c3
      try have c3b2 : (9223372036854775807 < ((⟨#[98, 97, 116, 99, 104]⟩ : ByteArray) ++ a0).size) = False := eq_false (Nat.not_lt.2 c3)
      (try (have c3b3 := c3; simp only [ByteArray.size_append] at c3b3; have c3b4 := eq_false (Nat.not_lt.2 c3b3)))
      obtain ⟨y101, hy101⟩ : ∃ y_ : List Int, y_ = (bytesOf ((⟨#[98, 97, 116, 99, 104]⟩ : ByteArray) ++ a0)) := ⟨_, rfl⟩
      replace H : ((spec_l01Hash.f y101).bind fun t104 => (some t104)) = some r := by first | (rw [hy101]; with_reducible exact H) | (have H2_ := (Option.bind_some _ _).symm.trans H; rw [hy101]; with_reducible exact H2_) | (have H2_ := (Option.bind_some _ _).symm.trans H; with_reducible exact H2_) | with_reducible exact H | (rw [hy101]; exact H) | exact H
      have Ny101 := Aside0.mk hy101
      clear hy101
      replace H := Option.bind_eq_some_iff.mp H
      obtain ⟨t104, A40, H⟩ := H
      replace H : (some t104) = some r := H
      have A4 := Aside0.mk A40
      clear A40
      obtain rfl := Option.some.inj H
      go_enter Tryd.func54, Tryd.ntmps54
      go_wp2_with (first | ((with_reducible refine gate_dst (N := 5) rfl ?_); refine R_bytes _ 5 rfl (N := 5) rfl 9 22 _ rfl ((⟨#[98, 97, 116, 99, 104]⟩ : ByteArray) ++ a0) rfl Tryd.underlying9 Tryd.underlying22 Tryd.underlying5 (ok := fun _ => True) trivial (of_decide_eq_true (by first | (with_reducible assumption) | assumption)) (Below.refl _ _) (Nat.le_refl _) ?_; intro v102 w5 ho6 hb hg_ hnew_; clear hg_ hnew_; (first | rw [← Ny101.out] at ho6 | (simp only [Int.reduceToNat] at ho6; rw [← Ny101.out] at ho6)); have n0_ := Aside0.mk (Kd.R_lower ho6 (below_size (by repeat (first | (with_reducible first | exact HB.out | apply below_alloc | apply pw_below_drewN | apply below_drew1) | exact HB.out)))); have n1_ := Aside0.mk (below_step (by repeat (first | (with_reducible first | exact HB.out | apply below_alloc | apply pw_below_drewN | apply below_drew1) | exact HB.out)) hb); clear HB; have HO103 := n0_; have HB := n1_; clear n0_ n1_; clear hb ho6; obtain ⟨Ao7, co7, eo7⟩ := Kd.R_slice HO103.out; subst eo7) | ((with_reducible refine gate_callee (f := 52) rfl ?_); refine goesL_ (some 6) rfl rfl Tryd.func52 (by kernel_rfl) rfl #[.slice Ao7 y101.length co7] rfl (by (try simp only [List.map_toArray, List.map_cons, List.map_nil]); first | done | rfl | (simp only [List.length_drop, List.length_take]; rfl)) ?_; (with_reducible refine (spec_l01Hash.calls _ _ y101 t104 _ ?side1 ?side2 A4.out).mono ?_); (case side1 => repeat (first | exact (Kd.R_reads' HO103.out).2.2 | (with_reducible refine Kd.C_alloc ?_ _) | (with_reducible refine Kd.C_drewN ?_ _) | (with_reducible refine Kd.C_drew ?_))); (case side2 => exact (Kd.R_reads' HO103.out).2.1); rintro e w8 ⟨rfl, hb⟩; refine ⟨_, rfl, ?_⟩; have n0_ := Aside0.mk (Kd.R_below (by (with_reducible repeat (first | apply Kd.R_alloc | apply Kd.R_drewN | apply Kd.R_drew)); exact HO103.out) hb); have n1_ := Aside0.mk (below_step (by repeat (first | (with_reducible first | exact HB.out | apply below_alloc | apply pw_below_drewN | apply below_drew1) | exact HB.out)) hb); clear HO103; clear HB; have HO103 := n0_; have HB := n1_; clear n0_ n1_; (try clear hb); (try clear hb2); (try clear hk); (try clear hi)))
      go_ret
      exact ⟨by first | rfl | (simp [errW_none, errW_some] <;> rfl) | (simp [*, errW_none, errW_some] <;> rfl) | (refine congrArg Ending.returned (congrArg Value.bool ?_); first | exact isEmpty_ne_ _ | exact isEmpty_eq_ _ | exact (isEmpty_ne_ _).symm | exact (isEmpty_eq_ _).symm | (simp only [isEmpty_ne_] <;> rfl) | (simp only [← isEmpty_ne_] <;> rfl) | (simp only [← isEmpty_ne_] <;> simp [*])), by repeat (first | (with_reducible first | exact HB.out | apply below_alloc | apply pw_below_drewN | apply below_drew1) | exact HB.out)⟩
    · rw [if_neg c3] at H
      exact absurd H (by simp)
  · rw [if_neg c2] at H
    exact absurd H (by simp)

/-! ### spec_BodyDigest: function 19 -/
def spec_BodyDigest.f (a0 : ByteArray) : Option (ByteArray × Int) := if (a0.size : Int) > 65531 then (some ((⟨#[]⟩ : ByteArray), 2)) else ((spec_l06Digest.f a0).bind fun t105 => (some (t105, 0)))
set_option maxHeartbeats 8000000 in
set_option maxRecDepth 100000 in
theorem spec_BodyDigest.calls (a0 : ByteArray) (r1 : ByteArray) (r2 : Int) (w : World) (h : spec_BodyDigest.f a0 = some (r1, r2)) :
    Calls Tryd.prog 19 #[.string a0] w fun e w' => e = .returned (.tuple #[.string r1, .int .i64 r2]) ∧ Below w.heap.size w w' := by
  have HB := Aside0.mk (Below.refl w.heap.size w)
  have H : (if (a0.size : Int) > 65531 then (some ((⟨#[]⟩ : ByteArray), 2)) else ((spec_l06Digest.f a0).bind fun t105 => (some (t105, 0)))) = some (r1, r2) := h
  clear h
  by_cases c2 : (a0.size : Int) > 65531
  · rw [if_pos c2] at H
    have c2b0 : decide (65531 < (a0.size : Int)) = true := decide_eq_true c2
    have c2b1 : decide (65531 < a0.size) = true := decide_eq_true (by omega)
    clear c2
    simp only [Option.some.injEq, Prod.mk.injEq] at H
    obtain ⟨rfl, rfl⟩ := H
    go_enter Tryd.func19, Tryd.ntmps19
    go_wp2
    go_ret2
    exact ⟨by first | rfl | (simp [errW_none, errW_some] <;> rfl) | (simp [*, errW_none, errW_some] <;> rfl) | (refine congrArg Ending.returned (congrArg Value.bool ?_); first | exact isEmpty_ne_ _ | exact isEmpty_eq_ _ | exact (isEmpty_ne_ _).symm | exact (isEmpty_eq_ _).symm | (simp only [isEmpty_ne_] <;> rfl) | (simp only [← isEmpty_ne_] <;> rfl) | (simp only [← isEmpty_ne_] <;> simp [*])), by repeat (first | (with_reducible first | exact HB.out | apply below_alloc | apply pw_below_drewN | apply below_drew1) | exact HB.out)⟩
  · rw [if_neg c2] at H
    have c2b0 : decide (65531 < (a0.size : Int)) = false := decide_eq_false c2
    have c2b1 : decide (65531 < a0.size) = false := decide_eq_false (by omega)
    clear c2
    replace H := Option.bind_eq_some_iff.mp H
    obtain ⟨t105, A30, H⟩ := H
    replace H : (some (t105, 0)) = some (r1, r2) := H
    have A3 := Aside0.mk A30
    clear A30
    simp only [Option.some.injEq, Prod.mk.injEq] at H
    obtain ⟨rfl, rfl⟩ := H
    go_enter Tryd.func19, Tryd.ntmps19
    go_wp2_with (first | ((with_reducible refine gate_callee (f := 54) rfl ?_); refine goesL_ (some 8) rfl rfl Tryd.func54 (by kernel_rfl) rfl #[.string a0] rfl (by (try simp only [List.map_toArray, List.map_cons, List.map_nil]); first | done | rfl | (simp only [List.length_drop, List.length_take]; rfl)) ?_; (with_reducible refine (spec_l06Digest.calls a0 t105 _ A3.out).mono ?_); rintro e w4 ⟨rfl, hb⟩; refine ⟨_, rfl, ?_⟩; have n0_ := Aside0.mk (below_step (by repeat (first | (with_reducible first | exact HB.out | apply below_alloc | apply pw_below_drewN | apply below_drew1) | exact HB.out)) hb); clear HB; have HB := n0_; clear n0_; (try clear hb); (try clear hb2); (try clear hk); (try clear hi)))
    go_ret2
    exact ⟨by first | rfl | (simp [errW_none, errW_some] <;> rfl) | (simp [*, errW_none, errW_some] <;> rfl) | (refine congrArg Ending.returned (congrArg Value.bool ?_); first | exact isEmpty_ne_ _ | exact isEmpty_eq_ _ | exact (isEmpty_ne_ _).symm | exact (isEmpty_eq_ _).symm | (simp only [isEmpty_ne_] <;> rfl) | (simp only [← isEmpty_ne_] <;> rfl) | (simp only [← isEmpty_ne_] <;> simp [*])), by repeat (first | (with_reducible first | exact HB.out | apply below_alloc | apply pw_below_drewN | apply below_drew1) | exact HB.out)⟩

/-! ### impl_hash: function 53, given -/
def impl_hash.f (t : ByteArray) : Option ByteArray := if t.size ≤ 1099511627776 then some (Go.Proofs.YtgknilganicofaaDoor.Sha.sha t) else none
theorem impl_hash.calls (t r : ByteArray) (w : World) (hG_ : Go.Proofs.YtgknilganicofaaDoor.Sha.GlobA w) (h : impl_hash.f t = some r) : Calls Tryd.prog 53 #[.string t] w fun e w' => e = .returned (.string r) ∧ Below w.heap.size w w' := by
  have hs : t.size ≤ 1099511627776 := by
    rcases Nat.lt_or_ge 1099511627776 t.size with hl | hl
    · rw [impl_hash.f, if_neg (by omega)] at h; cases h
    · exact hl
  rw [impl_hash.f, if_pos hs] at h
  injection h with h
  subst h
  exact Go.Proofs.YtgknilganicofaaDoor.Sha.hash_calls t w hG_ hs


/-! ### impl_bodyDigest: function 55 -/
def impl_bodyDigest.f (a0 : ByteArray) : Option (ByteArray) := if 5 + a0.size ≤ 9223372036854775807 then ((impl_hash.f ((⟨#[98, 97, 116, 99, 104]⟩ : ByteArray) ++ a0)).bind fun t106 => (some t106)) else (none)
set_option maxHeartbeats 8000000 in
set_option maxRecDepth 100000 in
theorem impl_bodyDigest.calls (a0 : ByteArray) (r : ByteArray) (w : World) (hG_ : Go.Proofs.YtgknilganicofaaDoor.Sha.GlobA w) (h : impl_bodyDigest.f a0 = some r) :
    Calls Tryd.prog 55 #[.string a0] w fun e w' => e = .returned (.string r) ∧ Below w.heap.size w w' := by
  have HB := Aside0.mk (Below.refl w.heap.size w)
  have H : (if 5 + a0.size ≤ 9223372036854775807 then ((impl_hash.f ((⟨#[98, 97, 116, 99, 104]⟩ : ByteArray) ++ a0)).bind fun t106 => (some t106)) else (none)) = some r := h
  clear h
  by_cases c2 : 5 + a0.size ≤ 9223372036854775807
  · rw [if_pos c2] at H
    have c2b0 := eq_true c2
    have c2b1 : decide (5 + a0.size ≤ 9223372036854775807) = true := decide_eq_true c2
    try have c2b2 : (9223372036854775807 < 5 + a0.size) = False := eq_false (Nat.not_lt.2 c2)
    replace H := Option.bind_eq_some_iff.mp H
    obtain ⟨t106, A30, H⟩ := H
    replace H : (some t106) = some r := H
    have A3 := Aside0.mk A30
    clear A30
    obtain rfl := Option.some.inj H
    go_enter Tryd.func55, Tryd.ntmps55
    go_wp2_with (first | ((with_reducible refine gate_callee (f := 53) rfl ?_); refine goesL_ (some 5) rfl rfl Tryd.func53 (by kernel_rfl) rfl #[.string ((⟨#[98, 97, 116, 99, 104]⟩ : ByteArray) ++ a0)] rfl (by (try simp only [List.map_toArray, List.map_cons, List.map_nil]); first | done | rfl | (simp only [List.length_drop, List.length_take]; rfl)) ?_; (with_reducible refine (impl_hash.calls ((⟨#[98, 97, 116, 99, 104]⟩ : ByteArray) ++ a0) t106 _ ?side1 A3.out).mono ?_); (case side1 => exact Go.Proofs.YtgknilganicofaaDoor.Sha.glob_below hG_ (by repeat (first | (with_reducible first | exact HB.out | apply below_alloc | apply pw_below_drewN | apply below_drew1) | exact HB.out))); rintro e w4 ⟨rfl, hb⟩; refine ⟨_, rfl, ?_⟩; have n0_ := Aside0.mk (below_step (by repeat (first | (with_reducible first | exact HB.out | apply below_alloc | apply pw_below_drewN | apply below_drew1) | exact HB.out)) hb); clear HB; have HB := n0_; clear n0_; (try clear hb); (try clear hb2); (try clear hk); (try clear hi)))
    go_ret
    exact ⟨by first | rfl | (simp [errW_none, errW_some] <;> rfl) | (simp [*, errW_none, errW_some] <;> rfl) | (refine congrArg Ending.returned (congrArg Value.bool ?_); first | exact isEmpty_ne_ _ | exact isEmpty_eq_ _ | exact (isEmpty_ne_ _).symm | exact (isEmpty_eq_ _).symm | (simp only [isEmpty_ne_] <;> rfl) | (simp only [← isEmpty_ne_] <;> rfl) | (simp only [← isEmpty_ne_] <;> simp [*])), by repeat (first | (with_reducible first | exact HB.out | apply below_alloc | apply pw_below_drewN | apply below_drew1) | exact HB.out)⟩
  · rw [if_neg c2] at H
    exact absurd H (by simp)

/-! ### impl_BodyDigest: function 20 -/
def impl_BodyDigest.f (a0 : ByteArray) : Option (ByteArray × Int) := if (a0.size : Int) > 65531 then (some ((⟨#[]⟩ : ByteArray), 2)) else ((impl_bodyDigest.f a0).bind fun t107 => (some (t107, 0)))
set_option maxHeartbeats 8000000 in
set_option maxRecDepth 100000 in
theorem impl_BodyDigest.calls (a0 : ByteArray) (r1 : ByteArray) (r2 : Int) (w : World) (hG_ : Go.Proofs.YtgknilganicofaaDoor.Sha.GlobA w) (h : impl_BodyDigest.f a0 = some (r1, r2)) :
    Calls Tryd.prog 20 #[.string a0] w fun e w' => e = .returned (.tuple #[.string r1, .int .i64 r2]) ∧ Below w.heap.size w w' := by
  have HB := Aside0.mk (Below.refl w.heap.size w)
  have H : (if (a0.size : Int) > 65531 then (some ((⟨#[]⟩ : ByteArray), 2)) else ((impl_bodyDigest.f a0).bind fun t107 => (some (t107, 0)))) = some (r1, r2) := h
  clear h
  by_cases c2 : (a0.size : Int) > 65531
  · rw [if_pos c2] at H
    have c2b0 : decide (65531 < (a0.size : Int)) = true := decide_eq_true c2
    have c2b1 : decide (65531 < a0.size) = true := decide_eq_true (by omega)
    clear c2
    simp only [Option.some.injEq, Prod.mk.injEq] at H
    obtain ⟨rfl, rfl⟩ := H
    go_enter Tryd.func20, Tryd.ntmps20
    go_wp2
    go_ret2
    exact ⟨by first | rfl | (simp [errW_none, errW_some] <;> rfl) | (simp [*, errW_none, errW_some] <;> rfl) | (refine congrArg Ending.returned (congrArg Value.bool ?_); first | exact isEmpty_ne_ _ | exact isEmpty_eq_ _ | exact (isEmpty_ne_ _).symm | exact (isEmpty_eq_ _).symm | (simp only [isEmpty_ne_] <;> rfl) | (simp only [← isEmpty_ne_] <;> rfl) | (simp only [← isEmpty_ne_] <;> simp [*])), by repeat (first | (with_reducible first | exact HB.out | apply below_alloc | apply pw_below_drewN | apply below_drew1) | exact HB.out)⟩
  · rw [if_neg c2] at H
    have c2b0 : decide (65531 < (a0.size : Int)) = false := decide_eq_false c2
    have c2b1 : decide (65531 < a0.size) = false := decide_eq_false (by omega)
    clear c2
    replace H := Option.bind_eq_some_iff.mp H
    obtain ⟨t107, A30, H⟩ := H
    replace H : (some (t107, 0)) = some (r1, r2) := H
    have A3 := Aside0.mk A30
    clear A30
    simp only [Option.some.injEq, Prod.mk.injEq] at H
    obtain ⟨rfl, rfl⟩ := H
    go_enter Tryd.func20, Tryd.ntmps20
    go_wp2_with (first | ((with_reducible refine gate_callee (f := 55) rfl ?_); refine goesL_ (some 8) rfl rfl Tryd.func55 (by kernel_rfl) rfl #[.string a0] rfl (by (try simp only [List.map_toArray, List.map_cons, List.map_nil]); first | done | rfl | (simp only [List.length_drop, List.length_take]; rfl)) ?_; (with_reducible refine (impl_bodyDigest.calls a0 t107 _ ?side1 A3.out).mono ?_); (case side1 => exact Go.Proofs.YtgknilganicofaaDoor.Sha.glob_below hG_ (by repeat (first | (with_reducible first | exact HB.out | apply below_alloc | apply pw_below_drewN | apply below_drew1) | exact HB.out))); rintro e w4 ⟨rfl, hb⟩; refine ⟨_, rfl, ?_⟩; have n0_ := Aside0.mk (below_step (by repeat (first | (with_reducible first | exact HB.out | apply below_alloc | apply pw_below_drewN | apply below_drew1) | exact HB.out)) hb); clear HB; have HB := n0_; clear n0_; (try clear hb); (try clear hb2); (try clear hk); (try clear hi)))
    go_ret2
    exact ⟨by first | rfl | (simp [errW_none, errW_some] <;> rfl) | (simp [*, errW_none, errW_some] <;> rfl) | (refine congrArg Ending.returned (congrArg Value.bool ?_); first | exact isEmpty_ne_ _ | exact isEmpty_eq_ _ | exact (isEmpty_ne_ _).symm | exact (isEmpty_eq_ _).symm | (simp only [isEmpty_ne_] <;> rfl) | (simp only [← isEmpty_ne_] <;> rfl) | (simp only [← isEmpty_ne_] <;> simp [*])), by repeat (first | (with_reducible first | exact HB.out | apply below_alloc | apply pw_below_drewN | apply below_drew1) | exact HB.out)⟩

/-! ### laws_FnExactBodyDigest: function 4 -/
def laws_FnExactBodyDigest.f (a0 : ByteArray) : Option (Bool) := if (a0.size : Int) > 1048576 then (some true) else ((spec_BodyDigest.f a0).bind fun bt108 => ((impl_BodyDigest.f a0).bind fun bt110 => (if bt110.1.toList = bt108.1.toList then (if bt110.2 = bt108.2 then (some true) else (some false)) else (some false))))
set_option maxHeartbeats 8000000 in
set_option maxRecDepth 100000 in
theorem laws_FnExactBodyDigest.calls (a0 : ByteArray) (r : Bool) (w : World) (hG_ : Go.Proofs.YtgknilganicofaaDoor.Sha.GlobA w) (h : laws_FnExactBodyDigest.f a0 = some r) :
    Calls Tryd.prog 4 #[.string a0] w fun e w' => e = .returned (.bool r) ∧ Below w.heap.size w w' := by
  have HB := Aside0.mk (Below.refl w.heap.size w)
  have H : (if (a0.size : Int) > 1048576 then (some true) else ((spec_BodyDigest.f a0).bind fun bt108 => ((impl_BodyDigest.f a0).bind fun bt110 => (if bt110.1.toList = bt108.1.toList then (if bt110.2 = bt108.2 then (some true) else (some false)) else (some false))))) = some r := h
  clear h
  by_cases c2 : (a0.size : Int) > 1048576
  · rw [if_pos c2] at H
    have c2b0 : decide (1048576 < (a0.size : Int)) = true := decide_eq_true c2
    have c2b1 : decide (1048576 < a0.size) = true := decide_eq_true (by omega)
    clear c2
    obtain rfl := Option.some.inj H
    go_enter Tryd.func4, Tryd.ntmps4
    go_wp2
    go_ret
    exact ⟨by first | rfl | (simp [errW_none, errW_some] <;> rfl) | (simp [*, errW_none, errW_some] <;> rfl) | (refine congrArg Ending.returned (congrArg Value.bool ?_); first | exact isEmpty_ne_ _ | exact isEmpty_eq_ _ | exact (isEmpty_ne_ _).symm | exact (isEmpty_eq_ _).symm | (simp only [isEmpty_ne_] <;> rfl) | (simp only [← isEmpty_ne_] <;> rfl) | (simp only [← isEmpty_ne_] <;> simp [*])), by repeat (first | (with_reducible first | exact HB.out | apply below_alloc | apply pw_below_drewN | apply below_drew1) | exact HB.out)⟩
  · rw [if_neg c2] at H
    have c2b0 : decide (1048576 < (a0.size : Int)) = false := decide_eq_false c2
    have c2b1 : decide (1048576 < a0.size) = false := decide_eq_false (by omega)
    clear c2
    replace H := Option.bind_eq_some_iff.mp H
    obtain ⟨⟨t108, t109⟩, A30, H⟩ := H
    replace H : ((impl_BodyDigest.f a0).bind fun bt110 => (if bt110.1.toList = t108.toList then (if bt110.2 = t109 then (some true) else (some false)) else (some false))) = some r := H
    have A3 := Aside0.mk A30
    clear A30
    replace H := Option.bind_eq_some_iff.mp H
    obtain ⟨⟨t110, t111⟩, A40, H⟩ := H
    replace H : (if t110.toList = t108.toList then (if t111 = t109 then (some true) else (some false)) else (some false)) = some r := H
    have A4 := Aside0.mk A40
    clear A40
    by_cases c5 : t110.toList = t108.toList
    · rw [if_pos c5] at H
      have c5b0 : (t110.toList == t108.toList) = true := beq_iff_eq.mpr c5
      have c5b1 : (t110.toList != t108.toList) = false := bne_eq_false_iff_eq.mpr c5
      clear c5
      by_cases c6 : t111 = t109
      · rw [if_pos c6] at H
        have c6b0 : (t111 == t109) = true := beq_iff_eq.mpr c6
        have c6b1 : (t111 != t109) = false := bne_eq_false_iff_eq.mpr c6
        clear c6
        obtain rfl := Option.some.inj H
        go_enter Tryd.func4, Tryd.ntmps4
        go_wp2_with (first | ((with_reducible refine gate_callee (f := 19) rfl ?_); refine goesL_ (some 12) rfl rfl Tryd.func19 (by kernel_rfl) rfl #[.string a0] rfl (by (try simp only [List.map_toArray, List.map_cons, List.map_nil]); first | done | rfl | (simp only [List.length_drop, List.length_take]; rfl)) ?_; (with_reducible refine (spec_BodyDigest.calls a0 t108 t109 _ A3.out).mono ?_); rintro e w7 ⟨rfl, hb⟩; refine ⟨_, rfl, ?_⟩; have n0_ := Aside0.mk (below_step (by repeat (first | (with_reducible first | exact HB.out | apply below_alloc | apply pw_below_drewN | apply below_drew1) | exact HB.out)) hb); clear HB; have HB := n0_; clear n0_; (try clear hb); (try clear hb2); (try clear hk); (try clear hi)) | ((with_reducible refine gate_callee (f := 20) rfl ?_); refine goesL_ (some 17) rfl rfl Tryd.func20 (by kernel_rfl) rfl #[.string a0] rfl (by (try simp only [List.map_toArray, List.map_cons, List.map_nil]); first | done | rfl | (simp only [List.length_drop, List.length_take]; rfl)) ?_; (with_reducible refine (impl_BodyDigest.calls a0 t110 t111 _ ?side1 A4.out).mono ?_); (case side1 => exact Go.Proofs.YtgknilganicofaaDoor.Sha.glob_below hG_ (by repeat (first | (with_reducible first | exact HB.out | apply below_alloc | apply pw_below_drewN | apply below_drew1) | exact HB.out))); rintro e w8 ⟨rfl, hb⟩; refine ⟨_, rfl, ?_⟩; have n0_ := Aside0.mk (below_step (by repeat (first | (with_reducible first | exact HB.out | apply below_alloc | apply pw_below_drewN | apply below_drew1) | exact HB.out)) hb); clear HB; have HB := n0_; clear n0_; (try clear hb); (try clear hb2); (try clear hk); (try clear hi)))
        go_ret
        exact ⟨by first | rfl | (simp [errW_none, errW_some] <;> rfl) | (simp [*, errW_none, errW_some] <;> rfl) | (refine congrArg Ending.returned (congrArg Value.bool ?_); first | exact isEmpty_ne_ _ | exact isEmpty_eq_ _ | exact (isEmpty_ne_ _).symm | exact (isEmpty_eq_ _).symm | (simp only [isEmpty_ne_] <;> rfl) | (simp only [← isEmpty_ne_] <;> rfl) | (simp only [← isEmpty_ne_] <;> simp [*])), by repeat (first | (with_reducible first | exact HB.out | apply below_alloc | apply pw_below_drewN | apply below_drew1) | exact HB.out)⟩
      · rw [if_neg c6] at H
        have c6b0 : (t111 == t109) = false := beq_eq_false_iff_ne.mpr c6
        have c6b1 : (t111 != t109) = true := bne_iff_ne.mpr c6
        obtain rfl := Option.some.inj H
        go_enter Tryd.func4, Tryd.ntmps4
        go_wp2_with (first | ((with_reducible refine gate_callee (f := 19) rfl ?_); refine goesL_ (some 12) rfl rfl Tryd.func19 (by kernel_rfl) rfl #[.string a0] rfl (by (try simp only [List.map_toArray, List.map_cons, List.map_nil]); first | done | rfl | (simp only [List.length_drop, List.length_take]; rfl)) ?_; (with_reducible refine (spec_BodyDigest.calls a0 t108 t109 _ A3.out).mono ?_); rintro e w9 ⟨rfl, hb⟩; refine ⟨_, rfl, ?_⟩; have n0_ := Aside0.mk (below_step (by repeat (first | (with_reducible first | exact HB.out | apply below_alloc | apply pw_below_drewN | apply below_drew1) | exact HB.out)) hb); clear HB; have HB := n0_; clear n0_; (try clear hb); (try clear hb2); (try clear hk); (try clear hi)) | ((with_reducible refine gate_callee (f := 20) rfl ?_); refine goesL_ (some 17) rfl rfl Tryd.func20 (by kernel_rfl) rfl #[.string a0] rfl (by (try simp only [List.map_toArray, List.map_cons, List.map_nil]); first | done | rfl | (simp only [List.length_drop, List.length_take]; rfl)) ?_; (with_reducible refine (impl_BodyDigest.calls a0 t110 t111 _ ?side1 A4.out).mono ?_); (case side1 => exact Go.Proofs.YtgknilganicofaaDoor.Sha.glob_below hG_ (by repeat (first | (with_reducible first | exact HB.out | apply below_alloc | apply pw_below_drewN | apply below_drew1) | exact HB.out))); rintro e w10 ⟨rfl, hb⟩; refine ⟨_, rfl, ?_⟩; have n0_ := Aside0.mk (below_step (by repeat (first | (with_reducible first | exact HB.out | apply below_alloc | apply pw_below_drewN | apply below_drew1) | exact HB.out)) hb); clear HB; have HB := n0_; clear n0_; (try clear hb); (try clear hb2); (try clear hk); (try clear hi)))
        go_ret
        exact ⟨by first | rfl | (simp [errW_none, errW_some] <;> rfl) | (simp [*, errW_none, errW_some] <;> rfl) | (refine congrArg Ending.returned (congrArg Value.bool ?_); first | exact isEmpty_ne_ _ | exact isEmpty_eq_ _ | exact (isEmpty_ne_ _).symm | exact (isEmpty_eq_ _).symm | (simp only [isEmpty_ne_] <;> rfl) | (simp only [← isEmpty_ne_] <;> rfl) | (simp only [← isEmpty_ne_] <;> simp [*])), by repeat (first | (with_reducible first | exact HB.out | apply below_alloc | apply pw_below_drewN | apply below_drew1) | exact HB.out)⟩
    · rw [if_neg c5] at H
      have c5b0 : (t110.toList == t108.toList) = false := beq_eq_false_iff_ne.mpr c5
      have c5b1 : (t110.toList != t108.toList) = true := bne_iff_ne.mpr c5
      obtain rfl := Option.some.inj H
      go_enter Tryd.func4, Tryd.ntmps4
      go_wp2_with (first | ((with_reducible refine gate_callee (f := 19) rfl ?_); refine goesL_ (some 12) rfl rfl Tryd.func19 (by kernel_rfl) rfl #[.string a0] rfl (by (try simp only [List.map_toArray, List.map_cons, List.map_nil]); first | done | rfl | (simp only [List.length_drop, List.length_take]; rfl)) ?_; (with_reducible refine (spec_BodyDigest.calls a0 t108 t109 _ A3.out).mono ?_); rintro e w11 ⟨rfl, hb⟩; refine ⟨_, rfl, ?_⟩; have n0_ := Aside0.mk (below_step (by repeat (first | (with_reducible first | exact HB.out | apply below_alloc | apply pw_below_drewN | apply below_drew1) | exact HB.out)) hb); clear HB; have HB := n0_; clear n0_; (try clear hb); (try clear hb2); (try clear hk); (try clear hi)) | ((with_reducible refine gate_callee (f := 20) rfl ?_); refine goesL_ (some 17) rfl rfl Tryd.func20 (by kernel_rfl) rfl #[.string a0] rfl (by (try simp only [List.map_toArray, List.map_cons, List.map_nil]); first | done | rfl | (simp only [List.length_drop, List.length_take]; rfl)) ?_; (with_reducible refine (impl_BodyDigest.calls a0 t110 t111 _ ?side1 A4.out).mono ?_); (case side1 => exact Go.Proofs.YtgknilganicofaaDoor.Sha.glob_below hG_ (by repeat (first | (with_reducible first | exact HB.out | apply below_alloc | apply pw_below_drewN | apply below_drew1) | exact HB.out))); rintro e w12 ⟨rfl, hb⟩; refine ⟨_, rfl, ?_⟩; have n0_ := Aside0.mk (below_step (by repeat (first | (with_reducible first | exact HB.out | apply below_alloc | apply pw_below_drewN | apply below_drew1) | exact HB.out)) hb); clear HB; have HB := n0_; clear n0_; (try clear hb); (try clear hb2); (try clear hk); (try clear hi)))
      go_ret
      exact ⟨by first | rfl | (simp [errW_none, errW_some] <;> rfl) | (simp [*, errW_none, errW_some] <;> rfl) | (refine congrArg Ending.returned (congrArg Value.bool ?_); first | exact isEmpty_ne_ _ | exact isEmpty_eq_ _ | exact (isEmpty_ne_ _).symm | exact (isEmpty_eq_ _).symm | (simp only [isEmpty_ne_] <;> rfl) | (simp only [← isEmpty_ne_] <;> rfl) | (simp only [← isEmpty_ne_] <;> simp [*])), by repeat (first | (with_reducible first | exact HB.out | apply below_alloc | apply pw_below_drewN | apply below_drew1) | exact HB.out)⟩

end Go.Proofs.YtgknilganicofaaDoor.PFnExactBodyDigest
