-- laid by this session's program myprint.py over the kit's printer
-- aliased
import Derived.Test.YtgekkfgljjbikaaPFnExactBatchBytesx0
import Derived.Test.YtgekkfgljjbikaaPFnExactBatchBytesx2
import Derived.Test.YtgekkfgljjbikaaPFnExactBatchBytesx6
import Derived.Test.YtgekkfgljjbikaaPFnExactBatchBytesx10
import Derived.Test.YtgekkfgljjbikaaPFnExactBatchBytesx11
namespace Go.Proofs.Ytgekkfgljjbikaa.PFnExactBatchBytes
open Go.RowKit Go.Proofs.YtgekkfgljjbikaaV.PrintWords Go.Proofs.YtgekkfgljjbikaaV.PrintLast Go.Proofs.YtgekkfgljjbikaaV.PrintMore
attribute [local go_sem] max2_int min2_int max_two min_two max_three min_three max_four min_four u8_wm u32_wm   -- for this text's walks alone
set_option linter.unusedVariables false
set_option linter.unusedSimpArgs false

/-! ### laws_FnExactBatchBytes: function 11 -/
theorem qa12 : type_of% @blk_drewN := @blk_drewN
theorem qb12 : type_of% @blk_drew := @blk_drew
theorem qc12 : type_of% @blk_alloc := @blk_alloc
theorem qd12 : type_of% @Kd.R_alloc := @Kd.R_alloc
theorem qe12 : type_of% @Kd.R_drewN := @Kd.R_drewN
theorem qf12 : type_of% @Kd.R_drew := @Kd.R_drew
theorem qg12 : type_of% @below_alloc := @below_alloc
theorem qh12 : type_of% @pw_below_drewN := @pw_below_drewN
theorem qi12 : type_of% @below_drew1 := @below_drew1
theorem qj12 : type_of% @below_set := @below_set
theorem qk12 : type_of% @Aside0.mk := @Aside0.mk
theorem ql12 : type_of% @Kd.R_far := @Kd.R_far
mutual
def laws_FnExactBatchBytes.j0 : Nat → List Int → Int → List Int → Int → Bool → Bool → Int → Int → Int → Int → ByteArray → List (S135) → Bool → Int → Int → Int → Int → ByteArray → List (S137) → Option (Bool)
  | 0, _, _, _, _, _, _, _, _, _, _, _, _, _, _, _, _, _, _, _ => none
  | k + 1, x4, x5, x7, x8, x40, x288000, x288001, x288002, x288003, x288004, x288005, x288006, x312000, x312001, x312002, x312003, x312004, x312005, x312006 => if x40 = true then (some false) else ((laws_toBatch.f k x288000 x288001 x288002 x288003 x288004 x288005 x288006).bind fun bt317 => ((laws_eqBatch.f k x312000 x312001 x312002 x312003 x312004 x312005 x312006 bt317.1 bt317.2.1 bt317.2.2.1 bt317.2.2.2.1 bt317.2.2.2.2.1 bt317.2.2.2.2.2.1 bt317.2.2.2.2.2.2).bind fun t326 => (if t326 = true then ((laws_markBatch.f k x312000 x312001 x312002 x312003 x312004 x312005 x312006 1).bind fun bt327 => (if bt327.1 < 0 then (laws_FnExactBatchBytes.j1 k x4 x5 x7 true x288000 x288001 x288002 x288003 x288004 x288005 x288006) else ((laws_eqByteS.f k x7 x4).bind fun t329 => (if t329 = true then (laws_FnExactBatchBytes.j1 k x4 x5 x7 (x8 != x5) x288000 x288001 x288002 x288003 x288004 x288005 x288006) else (laws_FnExactBatchBytes.j1 k x4 x5 x7 true x288000 x288001 x288002 x288003 x288004 x288005 x288006))))) else (some false))))
def laws_FnExactBatchBytes.j1 : Nat → List Int → Int → List Int → Bool → Bool → Int → Int → Int → Int → ByteArray → List (S135) → Option (Bool)
  | 0, _, _, _, _, _, _, _, _, _, _, _ => none
  | k + 1, x4, x5, x7, x61, x288000, x288001, x288002, x288003, x288004, x288005, x288006 => if x61 = true then (some false) else ((laws_markByteS.f k x7 1).bind fun bt330 => ((laws_heldByteS.f k bt330.2 1).bind fun t332 => (if t332 < 0 then (some false) else (if t332 = bt330.1 then ((laws_toBatch.f k x288000 x288001 x288002 x288003 x288004 x288005 x288006).bind fun bt333 => ((impl_BatchBytes.f k bt333.1 bt333.2.1 bt333.2.2.1 bt333.2.2.2.1 bt333.2.2.2.2.1 bt333.2.2.2.2.2.1 bt333.2.2.2.2.2.2).bind fun bt342 => ((laws_eqByteS.f k bt342.1 x4).bind fun t346 => (if t346 = true then (laws_FnExactBatchBytes.j2 k bt330.2 bt330.1 (bt342.2 != x5)) else (laws_FnExactBatchBytes.j2 k bt330.2 bt330.1 true))))) else (some false)))))
def laws_FnExactBatchBytes.j2 : Nat → List Int → Int → Bool → Option (Bool)
  | 0, _, _, _ => none
  | k + 1, x7, x10, x87 => if x87 = true then (some false) else ((laws_heldByteS.f k x7 1).bind fun t347 => (if t347 < 0 then (some false) else (if t347 = x10 then (some true) else (some false))))
end
def laws_FnExactBatchBytes.f (k : Nat) (a0_0 : Bool) (a0_1 : Int) (a0_2 : Int) (a0_3 : Int) (a0_4 : Int) (a0_5 : ByteArray) (l0_6 : List (S135)) : Option (Bool) := (laws_szBatch.f k a0_0 a0_1 a0_2 a0_3 a0_4 a0_5 l0_6 1048576).bind fun t288 => (if t288 < 0 then (some true) else ((laws_toBatch.f k a0_0 a0_1 a0_2 a0_3 a0_4 a0_5 l0_6).bind fun bt289 => ((spec_BatchBytes.f k bt289.1 bt289.2.1 bt289.2.2.1 bt289.2.2.2.1 bt289.2.2.2.2.1 bt289.2.2.2.2.2.1 bt289.2.2.2.2.2.2).bind fun bt298 => ((laws_toBatch.f k a0_0 a0_1 a0_2 a0_3 a0_4 a0_5 l0_6).bind fun bt302 => ((impl_BatchBytes.f k bt302.1 bt302.2.1 bt302.2.2.1 bt302.2.2.2.1 bt302.2.2.2.2.1 bt302.2.2.2.2.2.1 bt302.2.2.2.2.2.2).bind fun bt312 => ((laws_eqByteS.f k bt312.1 bt298.1).bind fun t316 => (if t316 = true then (laws_FnExactBatchBytes.j0 k bt298.1 bt298.2 bt312.1 bt312.2 (bt312.2 != bt298.2) a0_0 a0_1 a0_2 a0_3 a0_4 a0_5 l0_6 bt302.1 bt302.2.1 bt302.2.2.1 bt302.2.2.2.1 bt302.2.2.2.2.1 bt302.2.2.2.2.2.1 bt302.2.2.2.2.2.2) else (laws_FnExactBatchBytes.j0 k bt298.1 bt298.2 bt312.1 bt312.2 true a0_0 a0_1 a0_2 a0_3 a0_4 a0_5 l0_6 bt302.1 bt302.2.1 bt302.2.2.1 bt302.2.2.2.1 bt302.2.2.2.2.1 bt302.2.2.2.2.2.1 bt302.2.2.2.2.2.2))))))))
theorem laws_FnExactBatchBytes.mono_l : ∀ k, (∀ y0 y1 y2 y3 y4 y5 y6 y7 y8 y9 y10 y11 y12 y13 y14 y15 y16 y17 y18, LeO (laws_FnExactBatchBytes.j0 k y0 y1 y2 y3 y4 y5 y6 y7 y8 y9 y10 y11 y12 y13 y14 y15 y16 y17 y18) (laws_FnExactBatchBytes.j0 (k + 1) y0 y1 y2 y3 y4 y5 y6 y7 y8 y9 y10 y11 y12 y13 y14 y15 y16 y17 y18)) ∧ (∀ y0 y1 y2 y3 y4 y5 y6 y7 y8 y9 y10, LeO (laws_FnExactBatchBytes.j1 k y0 y1 y2 y3 y4 y5 y6 y7 y8 y9 y10) (laws_FnExactBatchBytes.j1 (k + 1) y0 y1 y2 y3 y4 y5 y6 y7 y8 y9 y10)) ∧ (∀ y0 y1 y2, LeO (laws_FnExactBatchBytes.j2 k y0 y1 y2) (laws_FnExactBatchBytes.j2 (k + 1) y0 y1 y2))
  | 0 => ⟨fun _ _ _ _ _ _ _ _ _ _ _ _ _ _ _ _ _ _ _ r h => by simp [laws_FnExactBatchBytes.j0] at h, fun _ _ _ _ _ _ _ _ _ _ _ r h => by simp [laws_FnExactBatchBytes.j1] at h, fun _ _ _ r h => by simp [laws_FnExactBatchBytes.j2] at h⟩
  | k + 1 => by
    obtain ⟨ih0, ih1, ih2⟩ := laws_FnExactBatchBytes.mono_l k
    refine ⟨?_, ?_, ?_⟩
    · intro y0 y1 y2 y3 y4 y5 y6 y7 y8 y9 y10 y11 y12 y13 y14 y15 y16 y17 y18
      unfold laws_FnExactBatchBytes.j0
      repeat' first
      | (with_reducible exact ih0 _ _ _ _ _ _ _ _ _ _ _ _ _ _ _ _ _ _ _)
      | (with_reducible exact ih1 _ _ _ _ _ _ _ _ _ _ _)
      | (with_reducible exact ih2 _ _ _)
      | (with_reducible exact impl_BatchBytes.mono _ _ _ _ _ _ _ _)
      | (with_reducible exact laws_eqBatch.mono _ _ _ _ _ _ _ _ _ _ _ _ _ _ _)
      | (with_reducible exact laws_eqByteS.mono _ _ _)
      | (with_reducible exact laws_heldByteS.mono _ _ _)
      | (with_reducible exact laws_markBatch.mono _ _ _ _ _ _ _ _ _)
      | (with_reducible exact laws_markByteS.mono _ _ _)
      | (with_reducible exact laws_szBatch.mono _ _ _ _ _ _ _ _ _)
      | (with_reducible exact laws_toBatch.mono _ _ _ _ _ _ _ _)
      | (with_reducible exact spec_BatchBytes.mono _ _ _ _ _ _ _ _)
      | (with_reducible exact LeO.refl _)
      | (with_reducible exact LeO.none _)
      | (with_reducible refine LeO.ite ?_ ?_)
      | (with_reducible refine LeO.bind ?_ (fun _ => ?_))
      | exact ih0 _ _ _ _ _ _ _ _ _ _ _ _ _ _ _ _ _ _ _
      | exact ih1 _ _ _ _ _ _ _ _ _ _ _
      | exact ih2 _ _ _
      | exact impl_BatchBytes.mono _ _ _ _ _ _ _ _
      | exact laws_eqBatch.mono _ _ _ _ _ _ _ _ _ _ _ _ _ _ _
      | exact laws_eqByteS.mono _ _ _
      | exact laws_heldByteS.mono _ _ _
      | exact laws_markBatch.mono _ _ _ _ _ _ _ _ _
      | exact laws_markByteS.mono _ _ _
      | exact laws_szBatch.mono _ _ _ _ _ _ _ _ _
      | exact laws_toBatch.mono _ _ _ _ _ _ _ _
      | exact spec_BatchBytes.mono _ _ _ _ _ _ _ _
      | exact LeO.none _
      | refine LeO.ite ?_ ?_
      | refine LeO.bind ?_ (fun _ => ?_)
    · intro y0 y1 y2 y3 y4 y5 y6 y7 y8 y9 y10
      unfold laws_FnExactBatchBytes.j1
      repeat' first
      | (with_reducible exact ih0 _ _ _ _ _ _ _ _ _ _ _ _ _ _ _ _ _ _ _)
      | (with_reducible exact ih1 _ _ _ _ _ _ _ _ _ _ _)
      | (with_reducible exact ih2 _ _ _)
      | (with_reducible exact impl_BatchBytes.mono _ _ _ _ _ _ _ _)
      | (with_reducible exact laws_eqBatch.mono _ _ _ _ _ _ _ _ _ _ _ _ _ _ _)
      | (with_reducible exact laws_eqByteS.mono _ _ _)
      | (with_reducible exact laws_heldByteS.mono _ _ _)
      | (with_reducible exact laws_markBatch.mono _ _ _ _ _ _ _ _ _)
      | (with_reducible exact laws_markByteS.mono _ _ _)
      | (with_reducible exact laws_szBatch.mono _ _ _ _ _ _ _ _ _)
      | (with_reducible exact laws_toBatch.mono _ _ _ _ _ _ _ _)
      | (with_reducible exact spec_BatchBytes.mono _ _ _ _ _ _ _ _)
      | (with_reducible exact LeO.refl _)
      | (with_reducible exact LeO.none _)
      | (with_reducible refine LeO.ite ?_ ?_)
      | (with_reducible refine LeO.bind ?_ (fun _ => ?_))
      | exact ih0 _ _ _ _ _ _ _ _ _ _ _ _ _ _ _ _ _ _ _
      | exact ih1 _ _ _ _ _ _ _ _ _ _ _
      | exact ih2 _ _ _
      | exact impl_BatchBytes.mono _ _ _ _ _ _ _ _
      | exact laws_eqBatch.mono _ _ _ _ _ _ _ _ _ _ _ _ _ _ _
      | exact laws_eqByteS.mono _ _ _
      | exact laws_heldByteS.mono _ _ _
      | exact laws_markBatch.mono _ _ _ _ _ _ _ _ _
      | exact laws_markByteS.mono _ _ _
      | exact laws_szBatch.mono _ _ _ _ _ _ _ _ _
      | exact laws_toBatch.mono _ _ _ _ _ _ _ _
      | exact spec_BatchBytes.mono _ _ _ _ _ _ _ _
      | exact LeO.none _
      | refine LeO.ite ?_ ?_
      | refine LeO.bind ?_ (fun _ => ?_)
    · intro y0 y1 y2
      unfold laws_FnExactBatchBytes.j2
      repeat' first
      | (with_reducible exact ih0 _ _ _ _ _ _ _ _ _ _ _ _ _ _ _ _ _ _ _)
      | (with_reducible exact ih1 _ _ _ _ _ _ _ _ _ _ _)
      | (with_reducible exact ih2 _ _ _)
      | (with_reducible exact impl_BatchBytes.mono _ _ _ _ _ _ _ _)
      | (with_reducible exact laws_eqBatch.mono _ _ _ _ _ _ _ _ _ _ _ _ _ _ _)
      | (with_reducible exact laws_eqByteS.mono _ _ _)
      | (with_reducible exact laws_heldByteS.mono _ _ _)
      | (with_reducible exact laws_markBatch.mono _ _ _ _ _ _ _ _ _)
      | (with_reducible exact laws_markByteS.mono _ _ _)
      | (with_reducible exact laws_szBatch.mono _ _ _ _ _ _ _ _ _)
      | (with_reducible exact laws_toBatch.mono _ _ _ _ _ _ _ _)
      | (with_reducible exact spec_BatchBytes.mono _ _ _ _ _ _ _ _)
      | (with_reducible exact LeO.refl _)
      | (with_reducible exact LeO.none _)
      | (with_reducible refine LeO.ite ?_ ?_)
      | (with_reducible refine LeO.bind ?_ (fun _ => ?_))
      | exact ih0 _ _ _ _ _ _ _ _ _ _ _ _ _ _ _ _ _ _ _
      | exact ih1 _ _ _ _ _ _ _ _ _ _ _
      | exact ih2 _ _ _
      | exact impl_BatchBytes.mono _ _ _ _ _ _ _ _
      | exact laws_eqBatch.mono _ _ _ _ _ _ _ _ _ _ _ _ _ _ _
      | exact laws_eqByteS.mono _ _ _
      | exact laws_heldByteS.mono _ _ _
      | exact laws_markBatch.mono _ _ _ _ _ _ _ _ _
      | exact laws_markByteS.mono _ _ _
      | exact laws_szBatch.mono _ _ _ _ _ _ _ _ _
      | exact laws_toBatch.mono _ _ _ _ _ _ _ _
      | exact spec_BatchBytes.mono _ _ _ _ _ _ _ _
      | exact LeO.none _
      | refine LeO.ite ?_ ?_
      | refine LeO.bind ?_ (fun _ => ?_)
theorem laws_FnExactBatchBytes.mono : ∀ a0 a1 a2 a3 a4 a5 a6 k, LeO (laws_FnExactBatchBytes.f k a0 a1 a2 a3 a4 a5 a6) (laws_FnExactBatchBytes.f (k + 1) a0 a1 a2 a3 a4 a5 a6) := by
  intro a0 a1 a2 a3 a4 a5 a6 k
  obtain ⟨ih0, ih1, ih2⟩ := laws_FnExactBatchBytes.mono_l k
  unfold laws_FnExactBatchBytes.f
  repeat' first
      | (with_reducible exact ih0 _ _ _ _ _ _ _ _ _ _ _ _ _ _ _ _ _ _ _)
      | (with_reducible exact ih1 _ _ _ _ _ _ _ _ _ _ _)
      | (with_reducible exact ih2 _ _ _)
      | (with_reducible exact impl_BatchBytes.mono _ _ _ _ _ _ _ _)
      | (with_reducible exact laws_eqBatch.mono _ _ _ _ _ _ _ _ _ _ _ _ _ _ _)
      | (with_reducible exact laws_eqByteS.mono _ _ _)
      | (with_reducible exact laws_heldByteS.mono _ _ _)
      | (with_reducible exact laws_markBatch.mono _ _ _ _ _ _ _ _ _)
      | (with_reducible exact laws_markByteS.mono _ _ _)
      | (with_reducible exact laws_szBatch.mono _ _ _ _ _ _ _ _ _)
      | (with_reducible exact laws_toBatch.mono _ _ _ _ _ _ _ _)
      | (with_reducible exact spec_BatchBytes.mono _ _ _ _ _ _ _ _)
      | (with_reducible exact LeO.refl _)
      | (with_reducible exact LeO.none _)
      | (with_reducible refine LeO.ite ?_ ?_)
      | (with_reducible refine LeO.bind ?_ (fun _ => ?_))
      | exact ih0 _ _ _ _ _ _ _ _ _ _ _ _ _ _ _ _ _ _ _
      | exact ih1 _ _ _ _ _ _ _ _ _ _ _
      | exact ih2 _ _ _
      | exact impl_BatchBytes.mono _ _ _ _ _ _ _ _
      | exact laws_eqBatch.mono _ _ _ _ _ _ _ _ _ _ _ _ _ _ _
      | exact laws_eqByteS.mono _ _ _
      | exact laws_heldByteS.mono _ _ _
      | exact laws_markBatch.mono _ _ _ _ _ _ _ _ _
      | exact laws_markByteS.mono _ _ _
      | exact laws_szBatch.mono _ _ _ _ _ _ _ _ _
      | exact laws_toBatch.mono _ _ _ _ _ _ _ _
      | exact spec_BatchBytes.mono _ _ _ _ _ _ _ _
      | exact LeO.none _
      | refine LeO.ite ?_ ?_
      | refine LeO.bind ?_ (fun _ => ?_)
set_option maxHeartbeats 8000000 in
set_option maxRecDepth 100000 in
theorem laws_FnExactBatchBytes.calls (k : Nat) (a0_0 : Bool) (a0_1 : Int) (a0_2 : Int) (a0_3 : Int) (a0_4 : Int) (a0_5 : ByteArray) (A0_6 : Option Addr) (c0_6 : Nat) (l0_6 : List (S135)) (r : Bool) (w : World) (hr0_6 : Kd.C k135 w A0_6 l0_6.length l0_6) (hc0_6 : l0_6.length ≤ c0_6) (h : laws_FnExactBatchBytes.f k a0_0 a0_1 a0_2 a0_3 a0_4 a0_5 l0_6 = some r) :
    Calls Try.prog 11 #[.agg #[.bool a0_0, .int .i64 a0_1, .int .i64 a0_2, .int .i64 a0_3, .int .i64 a0_4, .string a0_5, .slice A0_6 l0_6.length c0_6]] w fun e w' => e = .returned (.bool r) ∧ Below w.heap.size w w' := by
  have hu55 := Try.underlying55
  have hu60 := Try.underlying60
  have HR0_6 := qk12 hr0_6
  have HC0_6 := qk12 hc0_6
  clear hr0_6 hc0_6
  have HB := qk12 (Below.refl w.heap.size w)
  have H : ((laws_szBatch.f k a0_0 a0_1 a0_2 a0_3 a0_4 a0_5 l0_6 1048576).bind fun t288 => (if t288 < 0 then (some true) else ((laws_toBatch.f k a0_0 a0_1 a0_2 a0_3 a0_4 a0_5 l0_6).bind fun bt289 => ((spec_BatchBytes.f k bt289.1 bt289.2.1 bt289.2.2.1 bt289.2.2.2.1 bt289.2.2.2.2.1 bt289.2.2.2.2.2.1 bt289.2.2.2.2.2.2).bind fun bt298 => ((laws_toBatch.f k a0_0 a0_1 a0_2 a0_3 a0_4 a0_5 l0_6).bind fun bt302 => ((impl_BatchBytes.f k bt302.1 bt302.2.1 bt302.2.2.1 bt302.2.2.2.1 bt302.2.2.2.2.1 bt302.2.2.2.2.2.1 bt302.2.2.2.2.2.2).bind fun bt312 => ((laws_eqByteS.f k bt312.1 bt298.1).bind fun t316 => (if t316 = true then (laws_FnExactBatchBytes.j0 k bt298.1 bt298.2 bt312.1 bt312.2 (bt312.2 != bt298.2) a0_0 a0_1 a0_2 a0_3 a0_4 a0_5 l0_6 bt302.1 bt302.2.1 bt302.2.2.1 bt302.2.2.2.1 bt302.2.2.2.2.1 bt302.2.2.2.2.2.1 bt302.2.2.2.2.2.2) else (laws_FnExactBatchBytes.j0 k bt298.1 bt298.2 bt312.1 bt312.2 true a0_0 a0_1 a0_2 a0_3 a0_4 a0_5 l0_6 bt302.1 bt302.2.1 bt302.2.2.1 bt302.2.2.2.1 bt302.2.2.2.2.1 bt302.2.2.2.2.2.1 bt302.2.2.2.2.2.2))))))))) = some r := h
  clear h
  replace H := Option.bind_eq_some_iff.mp H
  obtain ⟨t288, A20, H⟩ := H
  replace H : (if t288 < 0 then (some true) else ((laws_toBatch.f k a0_0 a0_1 a0_2 a0_3 a0_4 a0_5 l0_6).bind fun bt289 => ((spec_BatchBytes.f k bt289.1 bt289.2.1 bt289.2.2.1 bt289.2.2.2.1 bt289.2.2.2.2.1 bt289.2.2.2.2.2.1 bt289.2.2.2.2.2.2).bind fun bt298 => ((laws_toBatch.f k a0_0 a0_1 a0_2 a0_3 a0_4 a0_5 l0_6).bind fun bt302 => ((impl_BatchBytes.f k bt302.1 bt302.2.1 bt302.2.2.1 bt302.2.2.2.1 bt302.2.2.2.2.1 bt302.2.2.2.2.2.1 bt302.2.2.2.2.2.2).bind fun bt312 => ((laws_eqByteS.f k bt312.1 bt298.1).bind fun t316 => (if t316 = true then (laws_FnExactBatchBytes.j0 k bt298.1 bt298.2 bt312.1 bt312.2 (bt312.2 != bt298.2) a0_0 a0_1 a0_2 a0_3 a0_4 a0_5 l0_6 bt302.1 bt302.2.1 bt302.2.2.1 bt302.2.2.2.1 bt302.2.2.2.2.1 bt302.2.2.2.2.2.1 bt302.2.2.2.2.2.2) else (laws_FnExactBatchBytes.j0 k bt298.1 bt298.2 bt312.1 bt312.2 true a0_0 a0_1 a0_2 a0_3 a0_4 a0_5 l0_6 bt302.1 bt302.2.1 bt302.2.2.1 bt302.2.2.2.1 bt302.2.2.2.2.1 bt302.2.2.2.2.2.1 bt302.2.2.2.2.2.2)))))))) = some r := H
  have A2 := qk12 A20
  clear A20
  by_cases c3 : t288 < 0
  · rw [if_pos c3] at H
    have c3b0 : decide (t288 < 0) = true := decide_eq_true c3
    clear c3
    obtain rfl := Option.some.inj H
    go_enter Try.func11, Try.ntmps11
    go_wp2_with (first | ((with_reducible refine gate_dst (N := 1) rfl ?_); refine box_event ?hg (N := 1) ?hd (cs := #[.bool a0_0, .int .i64 a0_1, .int .i64 a0_2, .int .i64 a0_3, .int .i64 a0_4, .string a0_5, .slice A0_6 l0_6.length c0_6]) (t := 55) ?hr ?_; (case hd => rfl); (case hg => rfl); (case hr => first | (go_simp; done) | (go_simp; rfl)); intro gb287 hg w4 hbox hb; have n0_ := qk12 (below_step (by repeat (first | (with_reducible first | exact HB.out | apply qg12 | apply qh12 | apply qi12) | exact HB.out)) hb); have n1_ := qk12 (hbox); have n2_ := qk12 ((by rw [hg]; exact (below_size (by repeat (first | (with_reducible first | exact HB.out | apply qg12 | apply qh12 | apply qi12) | exact HB.out))) : w.heap.size ≤ gb287)); have n3_ := qk12 ((by rw [hg]; exact (below_size (by repeat (first | (with_reducible first | exact HB.out | apply qg12 | apply qh12 | apply qi12) | exact HB.out))) : w.heap.size ≤ gb287)); clear HB; have HB := n0_; have BK287 := n1_; have GW287 := n2_; have GE287 := n3_; clear n0_ n1_ n2_ n3_; clear hb hbox hg; have hcz5_0 : w4.cell? ⟨gb287, 0, none⟩ = some (.bool a0_0) := (blk_cell BK287.out 0).trans rfl; have hcz5_1 : w4.cell? ⟨gb287, 1, none⟩ = some (.int .i64 a0_1) := (blk_cell BK287.out 1).trans rfl; have hcz5_2 : w4.cell? ⟨gb287, 2, none⟩ = some (.int .i64 a0_2) := (blk_cell BK287.out 2).trans rfl; have hcz5_3 : w4.cell? ⟨gb287, 3, none⟩ = some (.int .i64 a0_3) := (blk_cell BK287.out 3).trans rfl; have hcz5_4 : w4.cell? ⟨gb287, 4, none⟩ = some (.int .i64 a0_4) := (blk_cell BK287.out 4).trans rfl; have hcz5_5 : w4.cell? ⟨gb287, 5, none⟩ = some (.string a0_5) := (blk_cell BK287.out 5).trans rfl; have hcz5_6 : w4.cell? ⟨gb287, 6, none⟩ = some (.slice A0_6 l0_6.length c0_6) := (blk_cell BK287.out 6).trans rfl; have hfz5_0 := blk_frozen BK287.out 0; have hfz5_1 := blk_frozen BK287.out 1; have hfz5_2 := blk_frozen BK287.out 2; have hfz5_3 := blk_frozen BK287.out 3; have hfz5_4 := blk_frozen BK287.out 4; have hfz5_5 := blk_frozen BK287.out 5; have hfz5_6 := blk_frozen BK287.out 6) | ((with_reducible refine gate_callee (f := 43) rfl ?_); refine goesL_ (some 16) rfl rfl Try.func43 (by kernel_rfl) rfl #[.agg #[.bool a0_0, .int .i64 a0_1, .int .i64 a0_2, .int .i64 a0_3, .int .i64 a0_4, .string a0_5, .slice A0_6 l0_6.length c0_6], .int .i64 1048576] rfl (by (try simp only [List.map_toArray, List.map_cons, List.map_nil]); first | done | rfl | (simp only [List.length_drop, List.length_take]; rfl)) ?_; (with_reducible refine (laws_szBatch.calls k a0_0 a0_1 a0_2 a0_3 a0_4 a0_5 _ _ l0_6 1048576 t288 _ ?side1 ?side2 A2.out).mono ?_); (case side1 => repeat (first | exact (Kd.C_below HR0_6.out HB.out) | (with_reducible refine Kd.C_alloc ?_ _) | (with_reducible refine Kd.C_drewN ?_ _) | (with_reducible refine Kd.C_drew ?_))); (case side2 => exact HC0_6.out); rintro e w6 ⟨rfl, hb⟩; refine ⟨_, rfl, ?_⟩; have n0_ := qk12 (blk_below (g := gb287) (o := .cells #[.bool a0_0, .int .i64 a0_1, .int .i64 a0_2, .int .i64 a0_3, .int .i64 a0_4, .string a0_5, .slice A0_6 l0_6.length c0_6] 55 (0, 0)) (by (with_reducible repeat (first | apply qa12 | apply qb12 | apply qc12)); exact BK287.out) hb); have n1_ := qk12 (below_step (by repeat (first | (with_reducible first | exact HB.out | apply qg12 | apply qh12 | apply qi12 | refine qj12 ?_ GE287.out) | exact HB.out)) hb); clear BK287; clear HB; have BK287 := n0_; have HB := n1_; clear n0_ n1_; (try clear hb); (try clear hb2); (try clear hk); (try clear hi)))
    go_ret
    exact ⟨by first | rfl | (simp [errW_none, errW_some] <;> rfl) | (simp [*, errW_none, errW_some] <;> rfl), by repeat (first | (with_reducible first | exact HB.out | apply qg12 | apply qh12 | apply qi12 | refine qj12 ?_ GE287.out) | exact HB.out)⟩
  · rw [if_neg c3] at H
    have c3b0 : decide (t288 < 0) = false := decide_eq_false c3
    clear c3
    replace H := Option.bind_eq_some_iff.mp H
    obtain ⟨⟨t289, t290, t291, t292, t293, t294, t295⟩, A70, H⟩ := H
    replace H : ((spec_BatchBytes.f k t289 t290 t291 t292 t293 t294 t295).bind fun bt298 => ((laws_toBatch.f k a0_0 a0_1 a0_2 a0_3 a0_4 a0_5 l0_6).bind fun bt302 => ((impl_BatchBytes.f k bt302.1 bt302.2.1 bt302.2.2.1 bt302.2.2.2.1 bt302.2.2.2.2.1 bt302.2.2.2.2.2.1 bt302.2.2.2.2.2.2).bind fun bt312 => ((laws_eqByteS.f k bt312.1 bt298.1).bind fun t316 => (if t316 = true then (laws_FnExactBatchBytes.j0 k bt298.1 bt298.2 bt312.1 bt312.2 (bt312.2 != bt298.2) a0_0 a0_1 a0_2 a0_3 a0_4 a0_5 l0_6 bt302.1 bt302.2.1 bt302.2.2.1 bt302.2.2.2.1 bt302.2.2.2.2.1 bt302.2.2.2.2.2.1 bt302.2.2.2.2.2.2) else (laws_FnExactBatchBytes.j0 k bt298.1 bt298.2 bt312.1 bt312.2 true a0_0 a0_1 a0_2 a0_3 a0_4 a0_5 l0_6 bt302.1 bt302.2.1 bt302.2.2.1 bt302.2.2.2.1 bt302.2.2.2.2.1 bt302.2.2.2.2.2.1 bt302.2.2.2.2.2.2)))))) = some r := H
    have A7 := qk12 A70
    clear A70
    replace H := Option.bind_eq_some_iff.mp H
    obtain ⟨⟨t298, t301⟩, A80, H⟩ := H
    replace H : ((laws_toBatch.f k a0_0 a0_1 a0_2 a0_3 a0_4 a0_5 l0_6).bind fun bt302 => ((impl_BatchBytes.f k bt302.1 bt302.2.1 bt302.2.2.1 bt302.2.2.2.1 bt302.2.2.2.2.1 bt302.2.2.2.2.2.1 bt302.2.2.2.2.2.2).bind fun bt312 => ((laws_eqByteS.f k bt312.1 t298).bind fun t316 => (if t316 = true then (laws_FnExactBatchBytes.j0 k t298 t301 bt312.1 bt312.2 (bt312.2 != t301) a0_0 a0_1 a0_2 a0_3 a0_4 a0_5 l0_6 bt302.1 bt302.2.1 bt302.2.2.1 bt302.2.2.2.1 bt302.2.2.2.2.1 bt302.2.2.2.2.2.1 bt302.2.2.2.2.2.2) else (laws_FnExactBatchBytes.j0 k t298 t301 bt312.1 bt312.2 true a0_0 a0_1 a0_2 a0_3 a0_4 a0_5 l0_6 bt302.1 bt302.2.1 bt302.2.2.1 bt302.2.2.2.1 bt302.2.2.2.2.1 bt302.2.2.2.2.2.1 bt302.2.2.2.2.2.2))))) = some r := H
    have A8 := qk12 A80
    clear A80
    replace H := Option.bind_eq_some_iff.mp H
    obtain ⟨⟨t302, t303, t304, t305, t306, t307, t308⟩, A90, H⟩ := H
    replace H : ((impl_BatchBytes.f k t302 t303 t304 t305 t306 t307 t308).bind fun bt312 => ((laws_eqByteS.f k bt312.1 t298).bind fun t316 => (if t316 = true then (laws_FnExactBatchBytes.j0 k t298 t301 bt312.1 bt312.2 (bt312.2 != t301) a0_0 a0_1 a0_2 a0_3 a0_4 a0_5 l0_6 t302 t303 t304 t305 t306 t307 t308) else (laws_FnExactBatchBytes.j0 k t298 t301 bt312.1 bt312.2 true a0_0 a0_1 a0_2 a0_3 a0_4 a0_5 l0_6 t302 t303 t304 t305 t306 t307 t308)))) = some r := H
    have A9 := qk12 A90
    clear A90
    replace H := Option.bind_eq_some_iff.mp H
    obtain ⟨⟨t312, t315⟩, A100, H⟩ := H
    replace H : ((laws_eqByteS.f k t312 t298).bind fun t316 => (if t316 = true then (laws_FnExactBatchBytes.j0 k t298 t301 t312 t315 (t315 != t301) a0_0 a0_1 a0_2 a0_3 a0_4 a0_5 l0_6 t302 t303 t304 t305 t306 t307 t308) else (laws_FnExactBatchBytes.j0 k t298 t301 t312 t315 true a0_0 a0_1 a0_2 a0_3 a0_4 a0_5 l0_6 t302 t303 t304 t305 t306 t307 t308))) = some r := H
    have A10 := qk12 A100
    clear A100
    have HC11 := qk12 H
    clear H
    go_enter Try.func11, Try.ntmps11
    go_upto_region 8 with (first | ((with_reducible refine gate_dst (N := 1) rfl ?_); refine box_event ?hg (N := 1) ?hd (cs := #[.bool a0_0, .int .i64 a0_1, .int .i64 a0_2, .int .i64 a0_3, .int .i64 a0_4, .string a0_5, .slice A0_6 l0_6.length c0_6]) (t := 55) ?hr ?_; (case hd => rfl); (case hg => rfl); (case hr => first | (go_simp; done) | (go_simp; rfl)); intro gb287 hg w12 hbox hb; have n0_ := qk12 (below_step (by repeat (first | (with_reducible first | exact HB.out | apply qg12 | apply qh12 | apply qi12) | exact HB.out)) hb); have n1_ := qk12 (hbox); have n2_ := qk12 ((by rw [hg]; exact (below_size (by repeat (first | (with_reducible first | exact HB.out | apply qg12 | apply qh12 | apply qi12) | exact HB.out))) : w.heap.size ≤ gb287)); have n3_ := qk12 ((by rw [hg]; exact (below_size (by repeat (first | (with_reducible first | exact HB.out | apply qg12 | apply qh12 | apply qi12) | exact HB.out))) : w.heap.size ≤ gb287)); clear HB; have HB := n0_; have BK287 := n1_; have GW287 := n2_; have GE287 := n3_; clear n0_ n1_ n2_ n3_; clear hb hbox hg; have hcz13_0 : w12.cell? ⟨gb287, 0, none⟩ = some (.bool a0_0) := (blk_cell BK287.out 0).trans rfl; have hcz13_1 : w12.cell? ⟨gb287, 1, none⟩ = some (.int .i64 a0_1) := (blk_cell BK287.out 1).trans rfl; have hcz13_2 : w12.cell? ⟨gb287, 2, none⟩ = some (.int .i64 a0_2) := (blk_cell BK287.out 2).trans rfl; have hcz13_3 : w12.cell? ⟨gb287, 3, none⟩ = some (.int .i64 a0_3) := (blk_cell BK287.out 3).trans rfl; have hcz13_4 : w12.cell? ⟨gb287, 4, none⟩ = some (.int .i64 a0_4) := (blk_cell BK287.out 4).trans rfl; have hcz13_5 : w12.cell? ⟨gb287, 5, none⟩ = some (.string a0_5) := (blk_cell BK287.out 5).trans rfl; have hcz13_6 : w12.cell? ⟨gb287, 6, none⟩ = some (.slice A0_6 l0_6.length c0_6) := (blk_cell BK287.out 6).trans rfl; have hfz13_0 := blk_frozen BK287.out 0; have hfz13_1 := blk_frozen BK287.out 1; have hfz13_2 := blk_frozen BK287.out 2; have hfz13_3 := blk_frozen BK287.out 3; have hfz13_4 := blk_frozen BK287.out 4; have hfz13_5 := blk_frozen BK287.out 5; have hfz13_6 := blk_frozen BK287.out 6) | ((with_reducible refine gate_callee (f := 43) rfl ?_); refine goesL_ (some 16) rfl rfl Try.func43 (by kernel_rfl) rfl #[.agg #[.bool a0_0, .int .i64 a0_1, .int .i64 a0_2, .int .i64 a0_3, .int .i64 a0_4, .string a0_5, .slice A0_6 l0_6.length c0_6], .int .i64 1048576] rfl (by (try simp only [List.map_toArray, List.map_cons, List.map_nil]); first | done | rfl | (simp only [List.length_drop, List.length_take]; rfl)) ?_; (with_reducible refine (laws_szBatch.calls k a0_0 a0_1 a0_2 a0_3 a0_4 a0_5 _ _ l0_6 1048576 t288 _ ?side1 ?side2 A2.out).mono ?_); (case side1 => repeat (first | exact (Kd.C_below HR0_6.out HB.out) | (with_reducible refine Kd.C_alloc ?_ _) | (with_reducible refine Kd.C_drewN ?_ _) | (with_reducible refine Kd.C_drew ?_))); (case side2 => exact HC0_6.out); rintro e w14 ⟨rfl, hb⟩; refine ⟨_, rfl, ?_⟩; have n0_ := qk12 (blk_below (g := gb287) (o := .cells #[.bool a0_0, .int .i64 a0_1, .int .i64 a0_2, .int .i64 a0_3, .int .i64 a0_4, .string a0_5, .slice A0_6 l0_6.length c0_6] 55 (0, 0)) (by (with_reducible repeat (first | apply qa12 | apply qb12 | apply qc12)); exact BK287.out) hb); have n1_ := qk12 (below_step (by repeat (first | (with_reducible first | exact HB.out | apply qg12 | apply qh12 | apply qi12 | refine qj12 ?_ GE287.out) | exact HB.out)) hb); clear BK287; clear HB; have BK287 := n0_; have HB := n1_; clear n0_ n1_; (try clear hb); (try clear hb2); (try clear hk); (try clear hi); have hcz15_0 : w14.cell? ⟨gb287, 0, none⟩ = some (.bool a0_0) := (blk_cell BK287.out 0).trans rfl; have hcz15_1 : w14.cell? ⟨gb287, 1, none⟩ = some (.int .i64 a0_1) := (blk_cell BK287.out 1).trans rfl; have hcz15_2 : w14.cell? ⟨gb287, 2, none⟩ = some (.int .i64 a0_2) := (blk_cell BK287.out 2).trans rfl; have hcz15_3 : w14.cell? ⟨gb287, 3, none⟩ = some (.int .i64 a0_3) := (blk_cell BK287.out 3).trans rfl; have hcz15_4 : w14.cell? ⟨gb287, 4, none⟩ = some (.int .i64 a0_4) := (blk_cell BK287.out 4).trans rfl; have hcz15_5 : w14.cell? ⟨gb287, 5, none⟩ = some (.string a0_5) := (blk_cell BK287.out 5).trans rfl; have hcz15_6 : w14.cell? ⟨gb287, 6, none⟩ = some (.slice A0_6 l0_6.length c0_6) := (blk_cell BK287.out 6).trans rfl; have hfz15_0 := blk_frozen BK287.out 0; have hfz15_1 := blk_frozen BK287.out 1; have hfz15_2 := blk_frozen BK287.out 2; have hfz15_3 := blk_frozen BK287.out 3; have hfz15_4 := blk_frozen BK287.out 4; have hfz15_5 := blk_frozen BK287.out 5; have hfz15_6 := blk_frozen BK287.out 6) | ((with_reducible refine gate_callee (f := 45) rfl ?_); refine goesL_ (some 21) rfl rfl Try.func45 (by kernel_rfl) rfl #[.agg #[.bool a0_0, .int .i64 a0_1, .int .i64 a0_2, .int .i64 a0_3, .int .i64 a0_4, .string a0_5, .slice A0_6 l0_6.length c0_6]] rfl (by (try simp only [List.map_toArray, List.map_cons, List.map_nil]); first | done | rfl | (simp only [List.length_drop, List.length_take]; rfl)) ?_; (with_reducible refine (laws_toBatch.calls k a0_0 a0_1 a0_2 a0_3 a0_4 a0_5 _ _ l0_6 t289 t290 t291 t292 t293 t294 t295 _ ?side1 ?side2 A7.out).mono ?_); (case side1 => repeat (first | exact (Kd.C_below HR0_6.out HB.out) | (with_reducible refine Kd.C_alloc ?_ _) | (with_reducible refine Kd.C_drewN ?_ _) | (with_reducible refine Kd.C_drew ?_))); (case side2 => exact HC0_6.out); rintro e w16 ⟨v296, rfl, ho0, hb⟩; refine ⟨_, rfl, ?_⟩; have n0_ := qk12 (Kd.R_lower ho0 (below_size (by repeat (first | (with_reducible first | exact HB.out | apply qg12 | apply qh12 | apply qi12 | refine qj12 ?_ GE287.out) | exact HB.out)))); have n1_ := qk12 (blk_below (g := gb287) (o := .cells #[.bool a0_0, .int .i64 a0_1, .int .i64 a0_2, .int .i64 a0_3, .int .i64 a0_4, .string a0_5, .slice A0_6 l0_6.length c0_6] 55 (0, 0)) (by (with_reducible repeat (first | apply qa12 | apply qb12 | apply qc12)); exact BK287.out) hb); have n2_ := qk12 (below_step (by repeat (first | (with_reducible first | exact HB.out | apply qg12 | apply qh12 | apply qi12 | refine qj12 ?_ GE287.out) | exact HB.out)) hb); clear BK287; clear HB; have HO297 := n0_; have BK287 := n1_; have HB := n2_; clear n0_ n1_ n2_; (try clear hb); (try clear hb2); (try clear hk); (try clear hi); (try clear ho0); obtain ⟨Ao17, co17, eo17⟩ := Kd.R_slice HO297.out; subst eo17) | ((with_reducible refine gate_callee (f := 44) rfl ?_); refine goesL_ (some 22) rfl rfl Try.func44 (by kernel_rfl) rfl #[.agg #[.bool t289, .int .i64 t290, .int .i64 t291, .int .i64 t292, .int .i64 t293, .string t294, .slice Ao17 t295.length co17]] rfl (by (try simp only [List.map_toArray, List.map_cons, List.map_nil]); first | done | rfl | (simp only [List.length_drop, List.length_take]; rfl)) ?_; (with_reducible refine (spec_BatchBytes.calls k t289 t290 t291 t292 t293 t294 _ _ t295 t298 t301 _ ?side1 ?side2 A8.out).mono ?_); (case side1 => repeat (first | exact (Kd.R_reads' HO297.out).2.2 | (with_reducible refine Kd.C_alloc ?_ _) | (with_reducible refine Kd.C_drewN ?_ _) | (with_reducible refine Kd.C_drew ?_))); (case side2 => exact (Kd.R_reads' HO297.out).2.1); rintro e w18 ⟨v299, rfl, ho0, hb⟩; refine ⟨_, rfl, ?_⟩; have n0_ := qk12 (Kd.R_below (by (with_reducible repeat (first | apply qd12 | apply qe12 | apply qf12)); exact HO297.out) hb); have n1_ := qk12 (Kd.R_lower ho0 (below_size (by repeat (first | (with_reducible first | exact HB.out | apply qg12 | apply qh12 | apply qi12 | refine qj12 ?_ GE287.out) | exact HB.out)))); have n2_ := qk12 (blk_below (g := gb287) (o := .cells #[.bool a0_0, .int .i64 a0_1, .int .i64 a0_2, .int .i64 a0_3, .int .i64 a0_4, .string a0_5, .slice A0_6 l0_6.length c0_6] 55 (0, 0)) (by (with_reducible repeat (first | apply qa12 | apply qb12 | apply qc12)); exact BK287.out) hb); have n3_ := qk12 (below_step (by repeat (first | (with_reducible first | exact HB.out | apply qg12 | apply qh12 | apply qi12 | refine qj12 ?_ GE287.out) | exact HB.out)) hb); clear HO297; clear BK287; clear HB; have HO297 := n0_; have HO300 := n1_; have BK287 := n2_; have HB := n3_; clear n0_ n1_ n2_ n3_; (try clear hb); (try clear hb2); (try clear hk); (try clear hi); (try clear ho0); have hcz19_0 : w18.cell? ⟨gb287, 0, none⟩ = some (.bool a0_0) := (blk_cell BK287.out 0).trans rfl; have hcz19_1 : w18.cell? ⟨gb287, 1, none⟩ = some (.int .i64 a0_1) := (blk_cell BK287.out 1).trans rfl; have hcz19_2 : w18.cell? ⟨gb287, 2, none⟩ = some (.int .i64 a0_2) := (blk_cell BK287.out 2).trans rfl; have hcz19_3 : w18.cell? ⟨gb287, 3, none⟩ = some (.int .i64 a0_3) := (blk_cell BK287.out 3).trans rfl; have hcz19_4 : w18.cell? ⟨gb287, 4, none⟩ = some (.int .i64 a0_4) := (blk_cell BK287.out 4).trans rfl; have hcz19_5 : w18.cell? ⟨gb287, 5, none⟩ = some (.string a0_5) := (blk_cell BK287.out 5).trans rfl; have hcz19_6 : w18.cell? ⟨gb287, 6, none⟩ = some (.slice A0_6 l0_6.length c0_6) := (blk_cell BK287.out 6).trans rfl; have hfz19_0 := blk_frozen BK287.out 0; have hfz19_1 := blk_frozen BK287.out 1; have hfz19_2 := blk_frozen BK287.out 2; have hfz19_3 := blk_frozen BK287.out 3; have hfz19_4 := blk_frozen BK287.out 4; have hfz19_5 := blk_frozen BK287.out 5; have hfz19_6 := blk_frozen BK287.out 6) | ((with_reducible refine gate_callee (f := 45) rfl ?_); refine goesL_ (some 26) rfl rfl Try.func45 (by kernel_rfl) rfl #[.agg #[.bool a0_0, .int .i64 a0_1, .int .i64 a0_2, .int .i64 a0_3, .int .i64 a0_4, .string a0_5, .slice A0_6 l0_6.length c0_6]] rfl (by (try simp only [List.map_toArray, List.map_cons, List.map_nil]); first | done | rfl | (simp only [List.length_drop, List.length_take]; rfl)) ?_; (with_reducible refine (laws_toBatch.calls k a0_0 a0_1 a0_2 a0_3 a0_4 a0_5 _ _ l0_6 t302 t303 t304 t305 t306 t307 t308 _ ?side1 ?side2 A9.out).mono ?_); (case side1 => repeat (first | exact (Kd.C_below HR0_6.out HB.out) | (with_reducible refine Kd.C_alloc ?_ _) | (with_reducible refine Kd.C_drewN ?_ _) | (with_reducible refine Kd.C_drew ?_))); (case side2 => exact HC0_6.out); rintro e w20 ⟨v309, rfl, ho0, hb⟩; refine ⟨_, rfl, ?_⟩; have n0_ := qk12 (Kd.R_elder' (by (with_reducible repeat (first | apply qd12 | apply qe12 | apply qf12)); exact HO297.out) (Kd.R_base ho0) hb); have n1_ := qk12 (Kd.R_below (by (with_reducible repeat (first | apply qd12 | apply qe12 | apply qf12)); exact HO300.out) hb); have n2_ := qk12 (Kd.R_lower (Kd.R_new' ho0 (Kd.R_lt (by (with_reducible repeat (first | apply qd12 | apply qe12 | apply qf12)); exact HO297.out))) (below_size (by repeat (first | (with_reducible first | exact HB.out | apply qg12 | apply qh12 | apply qi12 | refine qj12 ?_ GE287.out) | exact HB.out)))); have n3_ := qk12 (blk_below (g := gb287) (o := .cells #[.bool a0_0, .int .i64 a0_1, .int .i64 a0_2, .int .i64 a0_3, .int .i64 a0_4, .string a0_5, .slice A0_6 l0_6.length c0_6] 55 (0, 0)) (by (with_reducible repeat (first | apply qa12 | apply qb12 | apply qc12)); exact BK287.out) hb); have n4_ := qk12 (below_step (by repeat (first | (with_reducible first | exact HB.out | apply qg12 | apply qh12 | apply qi12 | refine qj12 ?_ GE287.out) | exact HB.out)) hb); clear HO297; clear HO300; clear BK287; clear HB; have HO297 := n0_; have HO300 := n1_; have HO310 := n2_; have BK287 := n3_; have HB := n4_; clear n0_ n1_ n2_ n3_ n4_; (try clear hb); (try clear hb2); (try clear hk); (try clear hi); (try clear ho0)) | ((with_reducible refine gate_dst (N := 6) rfl ?_); refine box_event ?hg (N := 6) ?hd (cs := #[.bool false, .int .i64 0, .int .i64 0, .int .i64 0, .int .i64 0, .string (⟨#[]⟩ : ByteArray), .slice none 0 0]) (t := 60) ?hr ?_; (case hd => rfl); (case hg => rfl); (case hr => first | (go_simp; done) | (go_simp; rfl)); intro gb311 hg w21 hbox hb; have n0_ := qk12 (Kd.R_below (by (with_reducible repeat (first | apply qd12 | apply qe12 | apply qf12)); exact HO297.out) hb); have n1_ := qk12 (Kd.R_below (by (with_reducible repeat (first | apply qd12 | apply qe12 | apply qf12)); exact HO300.out) hb); have n2_ := qk12 (Kd.R_below (by (with_reducible repeat (first | apply qd12 | apply qe12 | apply qf12)); exact HO310.out) hb); have n3_ := qk12 (blk_below (g := gb287) (o := .cells #[.bool a0_0, .int .i64 a0_1, .int .i64 a0_2, .int .i64 a0_3, .int .i64 a0_4, .string a0_5, .slice A0_6 l0_6.length c0_6] 55 (0, 0)) (by (with_reducible repeat (first | apply qa12 | apply qb12 | apply qc12)); exact BK287.out) hb); have n4_ := qk12 (below_step (by repeat (first | (with_reducible first | exact HB.out | apply qg12 | apply qh12 | apply qi12 | refine qj12 ?_ GE287.out) | exact HB.out)) hb); have n5_ := qk12 (hbox); have n6_ := qk12 ((by rw [hg]; exact (below_size (by repeat (first | (with_reducible first | exact HB.out | apply qg12 | apply qh12 | apply qi12 | refine qj12 ?_ GE287.out) | exact HB.out))) : w.heap.size ≤ gb311)); have n7_ := qk12 ((by rw [hg]; exact (below_size (by repeat (first | (with_reducible first | exact HB.out | apply qg12 | apply qh12 | apply qi12 | refine qj12 ?_ GE287.out) | exact HB.out))) : w.heap.size ≤ gb311)); have n8_ := qk12 ((by rw [hg]; exact Nat.ne_of_lt (blk_lt (g := gb287) (o := .cells #[.bool a0_0, .int .i64 a0_1, .int .i64 a0_2, .int .i64 a0_3, .int .i64 a0_4, .string a0_5, .slice A0_6 l0_6.length c0_6] 55 (0, 0)) (by (with_reducible repeat (first | apply qa12 | apply qb12 | apply qc12)); exact BK287.out)) : gb287 ≠ gb311)); have n9_ := qk12 ((by rw [hg]; exact Nat.ne_of_gt (blk_lt (g := gb287) (o := .cells #[.bool a0_0, .int .i64 a0_1, .int .i64 a0_2, .int .i64 a0_3, .int .i64 a0_4, .string a0_5, .slice A0_6 l0_6.length c0_6] 55 (0, 0)) (by (with_reducible repeat (first | apply qa12 | apply qb12 | apply qc12)); exact BK287.out)) : gb311 ≠ gb287)); clear HO297; clear HO300; clear HO310; clear BK287; clear HB; have HO297 := n0_; have HO300 := n1_; have HO310 := n2_; have BK287 := n3_; have HB := n4_; have BK311 := n5_; have GW311 := n6_; have GE311 := n7_; have NB287_311 := n8_; have NB311_287 := n9_; clear n0_ n1_ n2_ n3_ n4_ n5_ n6_ n7_ n8_ n9_; clear hb hbox hg; have hnb22 := NB311_287.out; have hnc22 := NB287_311.out; have hcz23_0 : w21.cell? ⟨gb311, 0, none⟩ = some (.bool false) := (blk_cell BK311.out 0).trans rfl; have hcz23_1 : w21.cell? ⟨gb311, 1, none⟩ = some (.int .i64 0) := (blk_cell BK311.out 1).trans rfl; have hcz23_2 : w21.cell? ⟨gb311, 2, none⟩ = some (.int .i64 0) := (blk_cell BK311.out 2).trans rfl; have hcz23_3 : w21.cell? ⟨gb311, 3, none⟩ = some (.int .i64 0) := (blk_cell BK311.out 3).trans rfl; have hcz23_4 : w21.cell? ⟨gb311, 4, none⟩ = some (.int .i64 0) := (blk_cell BK311.out 4).trans rfl; have hcz23_5 : w21.cell? ⟨gb311, 5, none⟩ = some (.string (⟨#[]⟩ : ByteArray)) := (blk_cell BK311.out 5).trans rfl; have hcz23_6 : w21.cell? ⟨gb311, 6, none⟩ = some (.slice none 0 0) := (blk_cell BK311.out 6).trans rfl; have hfz23_0 := blk_frozen BK311.out 0; have hfz23_1 := blk_frozen BK311.out 1; have hfz23_2 := blk_frozen BK311.out 2; have hfz23_3 := blk_frozen BK311.out 3; have hfz23_4 := blk_frozen BK311.out 4; have hfz23_5 := blk_frozen BK311.out 5; have hfz23_6 := blk_frozen BK311.out 6; obtain ⟨Ao24, co24, eo24⟩ := Kd.R_slice HO310.out; subst eo24) | ((with_reducible refine gate_callee (f := 46) rfl ?_); refine goesL_ (some 29) rfl rfl Try.func46 (by kernel_rfl) rfl #[.agg #[.bool t302, .int .i64 t303, .int .i64 t304, .int .i64 t305, .int .i64 t306, .string t307, .slice Ao24 t308.length co24]] rfl (by (try simp only [List.map_toArray, List.map_cons, List.map_nil]); first | done | rfl | (simp only [List.length_drop, List.length_take]; rfl)) ?_; (with_reducible refine (impl_BatchBytes.calls k t302 t303 t304 t305 t306 t307 _ _ t308 t312 t315 _ ?side1 ?side2 A10.out).mono ?_); (case side1 => refine (Kd.R_reads' (e := 137) (base := w.heap.size) (ok := fun k_ => (True ∧ some k_ ≠ (.slice Ao17 t295.length co17 : Value).ownBlock)) (n := t308.length) (c := co24) ?_).2.2; exact (by (with_reducible repeat (first | apply qd12 | apply qe12 | apply qf12)); exact (Kd.R_mono (ql12 (p := ⟨gb311, 6, none⟩) (ql12 (p := ⟨gb311, 5, none⟩) (ql12 (p := ⟨gb311, 4, none⟩) (ql12 (p := ⟨gb311, 3, none⟩) (ql12 (p := ⟨gb311, 2, none⟩) (ql12 (p := ⟨gb311, 1, none⟩) (ql12 (p := ⟨gb311, 0, none⟩) (Kd.R_types HO310.out BK311.out (by decide)) (fun _ hk => hk.2) (.bool t302)) (fun _ hk => hk.2) (.int .i64 t303)) (fun _ hk => hk.2) (.int .i64 t304)) (fun _ hk => hk.2) (.int .i64 t305)) (fun _ hk => hk.2) (.int .i64 t306)) (fun _ hk => hk.2) (.string t307)) (fun _ hk => hk.2) (.slice Ao24 t308.length co24)) (fun _ h_ => h_.1)))); (case side2 => exact (Kd.R_reads' HO310.out).2.1); rintro e w25 ⟨v313, rfl, ho0, hb⟩; refine ⟨_, rfl, ?_⟩; have n0_ := qk12 (Kd.R_below (by (with_reducible repeat (first | apply qd12 | apply qe12 | apply qf12)); exact (Kd.R_mono (ql12 (p := ⟨gb311, 6, none⟩) (ql12 (p := ⟨gb311, 5, none⟩) (ql12 (p := ⟨gb311, 4, none⟩) (ql12 (p := ⟨gb311, 3, none⟩) (ql12 (p := ⟨gb311, 2, none⟩) (ql12 (p := ⟨gb311, 1, none⟩) (ql12 (p := ⟨gb311, 0, none⟩) (Kd.R_types HO297.out BK311.out (by decide)) (fun _ hk => hk.2) (.bool t302)) (fun _ hk => hk.2) (.int .i64 t303)) (fun _ hk => hk.2) (.int .i64 t304)) (fun _ hk => hk.2) (.int .i64 t305)) (fun _ hk => hk.2) (.int .i64 t306)) (fun _ hk => hk.2) (.string t307)) (fun _ hk => hk.2) (.slice Ao24 t308.length co24)) (fun _ h_ => h_.1))) hb); have n1_ := qk12 (Kd.R_elder' (by (with_reducible repeat (first | apply qd12 | apply qe12 | apply qf12)); exact (Kd.R_mono (ql12 (p := ⟨gb311, 6, none⟩) (ql12 (p := ⟨gb311, 5, none⟩) (ql12 (p := ⟨gb311, 4, none⟩) (ql12 (p := ⟨gb311, 3, none⟩) (ql12 (p := ⟨gb311, 2, none⟩) (ql12 (p := ⟨gb311, 1, none⟩) (ql12 (p := ⟨gb311, 0, none⟩) (Kd.R_types HO300.out BK311.out (by decide)) (fun _ hk => hk.2) (.bool t302)) (fun _ hk => hk.2) (.int .i64 t303)) (fun _ hk => hk.2) (.int .i64 t304)) (fun _ hk => hk.2) (.int .i64 t305)) (fun _ hk => hk.2) (.int .i64 t306)) (fun _ hk => hk.2) (.string t307)) (fun _ hk => hk.2) (.slice Ao24 t308.length co24)) (fun _ h_ => h_.1))) (Kd.R_base ho0) hb); have n2_ := qk12 (Kd.R_below (by (with_reducible repeat (first | apply qd12 | apply qe12 | apply qf12)); exact (Kd.R_mono (ql12 (p := ⟨gb311, 6, none⟩) (ql12 (p := ⟨gb311, 5, none⟩) (ql12 (p := ⟨gb311, 4, none⟩) (ql12 (p := ⟨gb311, 3, none⟩) (ql12 (p := ⟨gb311, 2, none⟩) (ql12 (p := ⟨gb311, 1, none⟩) (ql12 (p := ⟨gb311, 0, none⟩) (Kd.R_types HO310.out BK311.out (by decide)) (fun _ hk => hk.2) (.bool t302)) (fun _ hk => hk.2) (.int .i64 t303)) (fun _ hk => hk.2) (.int .i64 t304)) (fun _ hk => hk.2) (.int .i64 t305)) (fun _ hk => hk.2) (.int .i64 t306)) (fun _ hk => hk.2) (.string t307)) (fun _ hk => hk.2) (.slice Ao24 t308.length co24)) (fun _ h_ => h_.1))) hb); have n3_ := qk12 (Kd.R_lower (Kd.R_new' ho0 (Kd.R_lt (by (with_reducible repeat (first | apply qd12 | apply qe12 | apply qf12)); exact (Kd.R_mono (ql12 (p := ⟨gb311, 6, none⟩) (ql12 (p := ⟨gb311, 5, none⟩) (ql12 (p := ⟨gb311, 4, none⟩) (ql12 (p := ⟨gb311, 3, none⟩) (ql12 (p := ⟨gb311, 2, none⟩) (ql12 (p := ⟨gb311, 1, none⟩) (ql12 (p := ⟨gb311, 0, none⟩) (Kd.R_types HO300.out BK311.out (by decide)) (fun _ hk => hk.2) (.bool t302)) (fun _ hk => hk.2) (.int .i64 t303)) (fun _ hk => hk.2) (.int .i64 t304)) (fun _ hk => hk.2) (.int .i64 t305)) (fun _ hk => hk.2) (.int .i64 t306)) (fun _ hk => hk.2) (.string t307)) (fun _ hk => hk.2) (.slice Ao24 t308.length co24)) (fun _ h_ => h_.1))))) (below_size (by repeat (first | (with_reducible first | exact HB.out | apply qg12 | apply qh12 | apply qi12 | refine qj12 ?_ GE287.out | refine qj12 ?_ GE311.out) | exact HB.out)))); have n4_ := qk12 (blk_below (g := gb287) (o := .cells #[.bool a0_0, .int .i64 a0_1, .int .i64 a0_2, .int .i64 a0_3, .int .i64 a0_4, .string a0_5, .slice A0_6 l0_6.length c0_6] 55 (0, 0)) (by (with_reducible repeat (first | apply qa12 | apply qb12 | apply qc12)); refine blk_far ?_ NB287_311.out _; (with_reducible repeat (first | apply qa12 | apply qb12 | apply qc12)); refine blk_far ?_ NB287_311.out _; (with_reducible repeat (first | apply qa12 | apply qb12 | apply qc12)); refine blk_far ?_ NB287_311.out _; (with_reducible repeat (first | apply qa12 | apply qb12 | apply qc12)); refine blk_far ?_ NB287_311.out _; (with_reducible repeat (first | apply qa12 | apply qb12 | apply qc12)); refine blk_far ?_ NB287_311.out _; (with_reducible repeat (first | apply qa12 | apply qb12 | apply qc12)); refine blk_far ?_ NB287_311.out _; (with_reducible repeat (first | apply qa12 | apply qb12 | apply qc12)); refine blk_far ?_ NB287_311.out _; (with_reducible repeat (first | apply qa12 | apply qb12 | apply qc12)); exact BK287.out) hb); have n5_ := qk12 (blk_below (g := gb311) (o := .cells #[.bool t302, .int .i64 t303, .int .i64 t304, .int .i64 t305, .int .i64 t306, .string t307, .slice Ao24 t308.length co24] 60 (0, 0)) (by (with_reducible repeat (first | apply qa12 | apply qb12 | apply qc12)); refine blk_put (cs := #[.bool t302, .int .i64 t303, .int .i64 t304, .int .i64 t305, .int .i64 t306, .string t307, .slice none 0 0]) ?_ 6 _ rfl; (with_reducible repeat (first | apply qa12 | apply qb12 | apply qc12)); refine blk_put (cs := #[.bool t302, .int .i64 t303, .int .i64 t304, .int .i64 t305, .int .i64 t306, .string (⟨#[]⟩ : ByteArray), .slice none 0 0]) ?_ 5 _ rfl; (with_reducible repeat (first | apply qa12 | apply qb12 | apply qc12)); refine blk_put (cs := #[.bool t302, .int .i64 t303, .int .i64 t304, .int .i64 t305, .int .i64 0, .string (⟨#[]⟩ : ByteArray), .slice none 0 0]) ?_ 4 _ rfl; (with_reducible repeat (first | apply qa12 | apply qb12 | apply qc12)); refine blk_put (cs := #[.bool t302, .int .i64 t303, .int .i64 t304, .int .i64 0, .int .i64 0, .string (⟨#[]⟩ : ByteArray), .slice none 0 0]) ?_ 3 _ rfl; (with_reducible repeat (first | apply qa12 | apply qb12 | apply qc12)); refine blk_put (cs := #[.bool t302, .int .i64 t303, .int .i64 0, .int .i64 0, .int .i64 0, .string (⟨#[]⟩ : ByteArray), .slice none 0 0]) ?_ 2 _ rfl; (with_reducible repeat (first | apply qa12 | apply qb12 | apply qc12)); refine blk_put (cs := #[.bool t302, .int .i64 0, .int .i64 0, .int .i64 0, .int .i64 0, .string (⟨#[]⟩ : ByteArray), .slice none 0 0]) ?_ 1 _ rfl; (with_reducible repeat (first | apply qa12 | apply qb12 | apply qc12)); refine blk_put (cs := #[.bool false, .int .i64 0, .int .i64 0, .int .i64 0, .int .i64 0, .string (⟨#[]⟩ : ByteArray), .slice none 0 0]) ?_ 0 _ rfl; (with_reducible repeat (first | apply qa12 | apply qb12 | apply qc12)); exact BK311.out) hb); have n6_ := qk12 (below_step (by repeat (first | (with_reducible first | exact HB.out | apply qg12 | apply qh12 | apply qi12 | refine qj12 ?_ GE287.out | refine qj12 ?_ GE311.out) | exact HB.out)) hb); clear HO297; clear HO300; clear HO310; clear BK287; clear BK311; clear HB; have HO297 := n0_; have HO300 := n1_; have HO310 := n2_; have HO314 := n3_; have BK287 := n4_; have BK311 := n5_; have HB := n6_; clear n0_ n1_ n2_ n3_ n4_ n5_ n6_; (try clear hb); (try clear hb2); (try clear hk); (try clear hi); (try clear ho0)))
    (try simp only [Act.put, List.setIfInBounds_toArray, List.set_cons_zero, List.set_cons_succ])
    go_cut [40] (fun v40 wc => ∃ (kq : Nat) (x40_10 : Bool), v40 = .bool x40_10 ∧ Aside0 (laws_FnExactBatchBytes.j0 kq t298 t301 t312 t315 x40_10 a0_0 a0_1 a0_2 a0_3 a0_4 a0_5 l0_6 t302 t303 t304 t305 t306 t307 t308 = some r) ∧ Aside0 (kq ≤ k) ∧ Aside0 (Kd.R (Kd.int .u8) 5 wc w.heap.size (fun k_ => some k_ ≠ (v313 : Value).ownBlock) v299 t298) ∧ Aside0 (Kd.R (Kd.int .u8) 5 wc w.heap.size (fun k_ => some k_ ≠ (v299 : Value).ownBlock) v313 t312) ∧ Aside0 (Kd.R k137 137 wc w.heap.size (fun _ => True) (.slice Ao24 t308.length co24) t308) ∧ Aside0 (wc.heap[gb287]? = some (.cells #[.bool a0_0, .int .i64 a0_1, .int .i64 a0_2, .int .i64 a0_3, .int .i64 a0_4, .string a0_5, (.slice A0_6 l0_6.length c0_6)] 55 (0, 0))) ∧ Aside0 (wc.heap[gb311]? = some (.cells #[.bool t302, .int .i64 t303, .int .i64 t304, .int .i64 t305, .int .i64 t306, .string t307, (.slice Ao24 t308.length co24)] 60 (0, 0))) ∧ Aside0 (Below w.heap.size w wc))
    case first =>
      have H := HC11.out
      clear HC11
      replace H := Option.bind_eq_some_iff.mp H
      obtain ⟨t316, A260, H⟩ := H
      replace H : (if t316 = true then (laws_FnExactBatchBytes.j0 k t298 t301 t312 t315 (t315 != t301) a0_0 a0_1 a0_2 a0_3 a0_4 a0_5 l0_6 t302 t303 t304 t305 t306 t307 t308) else (laws_FnExactBatchBytes.j0 k t298 t301 t312 t315 true a0_0 a0_1 a0_2 a0_3 a0_4 a0_5 l0_6 t302 t303 t304 t305 t306 t307 t308)) = some r := H
      have A26 := qk12 A260
      clear A260
      by_cases c27 : t316 = true
      · subst c27
        have H1 : (laws_FnExactBatchBytes.j0 k t298 t301 t312 t315 (t315 != t301) a0_0 a0_1 a0_2 a0_3 a0_4 a0_5 l0_6 t302 t303 t304 t305 t306 t307 t308) = some r := by rw [if_pos rfl] at H; exact H
        clear H
        have H := H1
        clear H1
        have H' := qk12 H
        clear H
        obtain ⟨Ao28, co28, eo28⟩ := Kd.R_slice HO314.out
        subst eo28
        obtain ⟨Ao29, co29, eo29⟩ := Kd.R_slice HO300.out
        subst eo29
        go_wp2_with (first | ((with_reducible refine gate_callee (f := 26) rfl ?_); refine goesL_ (some 34) rfl rfl Try.func26 (by kernel_rfl) rfl #[.slice Ao28 t312.length co28, .slice Ao29 t298.length co29] rfl (by (try simp only [List.map_toArray, List.map_cons, List.map_nil]); first | done | rfl | (simp only [List.length_drop, List.length_take]; rfl)) ?_; (with_reducible refine (laws_eqByteS.calls k _ _ t312 _ _ t298 true _ ?side1 ?side2 ?side3 ?side4 A26.out).mono ?_); (case side1 => repeat (first | exact (Kd.R_reads' HO314.out).2.2 | (with_reducible refine Kd.C_alloc ?_ _) | (with_reducible refine Kd.C_drewN ?_ _) | (with_reducible refine Kd.C_drew ?_))); (case side2 => exact (Kd.R_reads' HO314.out).2.1); (case side3 => repeat (first | exact (Kd.R_reads' HO300.out).2.2 | (with_reducible refine Kd.C_alloc ?_ _) | (with_reducible refine Kd.C_drewN ?_ _) | (with_reducible refine Kd.C_drew ?_))); (case side4 => exact (Kd.R_reads' HO300.out).2.1); rintro e w' ⟨rfl, ⟨nd, rfl⟩⟩; refine ⟨_, rfl, ?_⟩))
        go_meet
        case rel => exact ⟨_, ((t315 != t301)), (by first | rfl | (simp; done) | (simp [*]; done)), H', ⟨by first | omega | exact Nat.le_refl _⟩, ⟨by (with_reducible repeat (first | apply qd12 | apply qe12 | apply qf12)); exact Kd.R_mono HO300.out (fun _ hk => hk.2)⟩, ⟨by (with_reducible repeat (first | apply qd12 | apply qe12 | apply qf12)); exact Kd.R_mono HO314.out (fun _ hk => hk.2)⟩, ⟨by (with_reducible repeat (first | apply qd12 | apply qe12 | apply qf12)); exact Kd.R_mono HO310.out (fun _ hk => trivial)⟩, ⟨by (with_reducible repeat (first | apply qa12 | apply qb12 | apply qc12)); exact BK287.out⟩, ⟨by (with_reducible repeat (first | apply qa12 | apply qb12 | apply qc12)); exact BK311.out⟩, ⟨by repeat (first | (with_reducible first | exact HB.out | apply qg12 | apply qh12 | apply qi12 | refine qj12 ?_ GE287.out | refine qj12 ?_ GE311.out) | exact HB.out)⟩⟩
      · replace c27 := Bool.eq_false_iff.mpr c27
        subst c27
        have H1 : (laws_FnExactBatchBytes.j0 k t298 t301 t312 t315 true a0_0 a0_1 a0_2 a0_3 a0_4 a0_5 l0_6 t302 t303 t304 t305 t306 t307 t308) = some r := by rw [if_neg (show ¬ (false = true) by decide)] at H; exact H
        clear H
        have H := H1
        clear H1
        have H' := qk12 H
        clear H
        obtain ⟨Ao30, co30, eo30⟩ := Kd.R_slice HO314.out
        subst eo30
        obtain ⟨Ao31, co31, eo31⟩ := Kd.R_slice HO300.out
        subst eo31
        go_wp2_with (first | ((with_reducible refine gate_callee (f := 26) rfl ?_); refine goesL_ (some 34) rfl rfl Try.func26 (by kernel_rfl) rfl #[.slice Ao30 t312.length co30, .slice Ao31 t298.length co31] rfl (by (try simp only [List.map_toArray, List.map_cons, List.map_nil]); first | done | rfl | (simp only [List.length_drop, List.length_take]; rfl)) ?_; (with_reducible refine (laws_eqByteS.calls k _ _ t312 _ _ t298 false _ ?side1 ?side2 ?side3 ?side4 A26.out).mono ?_); (case side1 => repeat (first | exact (Kd.R_reads' HO314.out).2.2 | (with_reducible refine Kd.C_alloc ?_ _) | (with_reducible refine Kd.C_drewN ?_ _) | (with_reducible refine Kd.C_drew ?_))); (case side2 => exact (Kd.R_reads' HO314.out).2.1); (case side3 => repeat (first | exact (Kd.R_reads' HO300.out).2.2 | (with_reducible refine Kd.C_alloc ?_ _) | (with_reducible refine Kd.C_drewN ?_ _) | (with_reducible refine Kd.C_drew ?_))); (case side4 => exact (Kd.R_reads' HO300.out).2.1); rintro e w' ⟨rfl, ⟨nd, rfl⟩⟩; refine ⟨_, rfl, ?_⟩))
        go_meet
        case rel => exact ⟨_, (true), (by first | rfl | (simp; done) | (simp [*]; done)), H', ⟨by first | omega | exact Nat.le_refl _⟩, ⟨by (with_reducible repeat (first | apply qd12 | apply qe12 | apply qf12)); exact Kd.R_mono HO300.out (fun _ hk => hk.2)⟩, ⟨by (with_reducible repeat (first | apply qd12 | apply qe12 | apply qf12)); exact Kd.R_mono HO314.out (fun _ hk => hk.2)⟩, ⟨by (with_reducible repeat (first | apply qd12 | apply qe12 | apply qf12)); exact Kd.R_mono HO310.out (fun _ hk => trivial)⟩, ⟨by (with_reducible repeat (first | apply qa12 | apply qb12 | apply qc12)); exact BK287.out⟩, ⟨by (with_reducible repeat (first | apply qa12 | apply qb12 | apply qc12)); exact BK311.out⟩, ⟨by repeat (first | (with_reducible first | exact HB.out | apply qg12 | apply qh12 | apply qi12 | refine qj12 ?_ GE287.out | refine qj12 ?_ GE311.out) | exact HB.out)⟩⟩
    case rest =>
      clear HC11
      try clear c1
      try clear c2
      try clear p2
      try clear c3
      try clear c3b0
      try clear c4
      try clear c11
      try clear c22
      try clear c26
      try clear c27
      try clear hcz13_0
      try clear hcz13_1
      try clear hcz13_2
      try clear hcz13_3
      try clear hcz13_4
      try clear hcz13_5
      try clear hcz13_6
      try clear hcz15_0
      try clear hcz15_1
      try clear hcz15_2
      try clear hcz15_3
      try clear hcz15_4
      try clear hcz15_5
      try clear hcz15_6
      try clear hcz19_0
      try clear hcz19_1
      try clear hcz19_2
      try clear hcz19_3
      try clear hcz19_4
      try clear hcz19_5
      try clear hcz19_6
      try clear hcz23_0
      try clear hcz23_1
      try clear hcz23_2
      try clear hcz23_3
      try clear hcz23_4
      try clear hcz23_5
      try clear hcz23_6
      try clear hcz5_0
      try clear hcz5_1
      try clear hcz5_2
      try clear hcz5_3
      try clear hcz5_4
      try clear hcz5_5
      try clear hcz5_6
      try clear hfz13_0
      try clear hfz13_1
      try clear hfz13_2
      try clear hfz13_3
      try clear hfz13_4
      try clear hfz13_5
      try clear hfz13_6
      try clear hfz15_0
      try clear hfz15_1
      try clear hfz15_2
      try clear hfz15_3
      try clear hfz15_4
      try clear hfz15_5
      try clear hfz15_6
      try clear hfz19_0
      try clear hfz19_1
      try clear hfz19_2
      try clear hfz19_3
      try clear hfz19_4
      try clear hfz19_5
      try clear hfz19_6
      try clear hfz23_0
      try clear hfz23_1
      try clear hfz23_2
      try clear hfz23_3
      try clear hfz23_4
      try clear hfz23_5
      try clear hfz23_6
      try clear hfz5_0
      try clear hfz5_1
      try clear hfz5_2
      try clear hfz5_3
      try clear hfz5_4
      try clear hfz5_5
      try clear hfz5_6
      obtain ⟨kq, x40_10, rfl, HA, HJ10, HO_4, HO_7, HO_312006, BK287, BK311, HB⟩ := hcut
      cases kq with
      | zero => exact absurd HA.out (by simp [laws_FnExactBatchBytes.j0])
      | succ kj10 =>
        have H := HA.out
        clear HA
        simp only [laws_FnExactBatchBytes.j0] at H
        by_cases c32 : x40_10 = true
        · subst c32
          have H1 : (some false) = some r := by rw [if_pos rfl] at H; exact H
          clear H
          have H := H1
          clear H1
          obtain rfl := Option.some.inj H
          go_wp2
          go_ret
          exact ⟨by first | rfl | (simp [errW_none, errW_some] <;> rfl) | (simp [*, errW_none, errW_some] <;> rfl), by repeat (first | (with_reducible first | exact HB.out | apply qg12 | apply qh12 | apply qi12 | refine qj12 ?_ GE287.out | refine qj12 ?_ GE311.out) | exact HB.out)⟩
        · replace c32 := Bool.eq_false_iff.mpr c32
          subst c32
          have H1 : ((laws_toBatch.f kj10 a0_0 a0_1 a0_2 a0_3 a0_4 a0_5 l0_6).bind fun bt317 => ((laws_eqBatch.f kj10 t302 t303 t304 t305 t306 t307 t308 bt317.1 bt317.2.1 bt317.2.2.1 bt317.2.2.2.1 bt317.2.2.2.2.1 bt317.2.2.2.2.2.1 bt317.2.2.2.2.2.2).bind fun t326 => (if t326 = true then ((laws_markBatch.f kj10 t302 t303 t304 t305 t306 t307 t308 1).bind fun bt327 => (if bt327.1 < 0 then (laws_FnExactBatchBytes.j1 kj10 t298 t301 t312 true a0_0 a0_1 a0_2 a0_3 a0_4 a0_5 l0_6) else ((laws_eqByteS.f kj10 t312 t298).bind fun t329 => (if t329 = true then (laws_FnExactBatchBytes.j1 kj10 t298 t301 t312 (t315 != t301) a0_0 a0_1 a0_2 a0_3 a0_4 a0_5 l0_6) else (laws_FnExactBatchBytes.j1 kj10 t298 t301 t312 true a0_0 a0_1 a0_2 a0_3 a0_4 a0_5 l0_6))))) else (some false)))) = some r := by rw [if_neg (show ¬ (false = true) by decide)] at H; exact H
          clear H
          have H := H1
          clear H1
          replace H := Option.bind_eq_some_iff.mp H
          obtain ⟨⟨t317, t318, t319, t320, t321, t322, t323⟩, A330, H⟩ := H
          replace H : ((laws_eqBatch.f kj10 t302 t303 t304 t305 t306 t307 t308 t317 t318 t319 t320 t321 t322 t323).bind fun t326 => (if t326 = true then ((laws_markBatch.f kj10 t302 t303 t304 t305 t306 t307 t308 1).bind fun bt327 => (if bt327.1 < 0 then (laws_FnExactBatchBytes.j1 kj10 t298 t301 t312 true a0_0 a0_1 a0_2 a0_3 a0_4 a0_5 l0_6) else ((laws_eqByteS.f kj10 t312 t298).bind fun t329 => (if t329 = true then (laws_FnExactBatchBytes.j1 kj10 t298 t301 t312 (t315 != t301) a0_0 a0_1 a0_2 a0_3 a0_4 a0_5 l0_6) else (laws_FnExactBatchBytes.j1 kj10 t298 t301 t312 true a0_0 a0_1 a0_2 a0_3 a0_4 a0_5 l0_6))))) else (some false))) = some r := H
          have A33 := qk12 A330
          clear A330
          replace H := Option.bind_eq_some_iff.mp H
          obtain ⟨t326, A340, H⟩ := H
          replace H : (if t326 = true then ((laws_markBatch.f kj10 t302 t303 t304 t305 t306 t307 t308 1).bind fun bt327 => (if bt327.1 < 0 then (laws_FnExactBatchBytes.j1 kj10 t298 t301 t312 true a0_0 a0_1 a0_2 a0_3 a0_4 a0_5 l0_6) else ((laws_eqByteS.f kj10 t312 t298).bind fun t329 => (if t329 = true then (laws_FnExactBatchBytes.j1 kj10 t298 t301 t312 (t315 != t301) a0_0 a0_1 a0_2 a0_3 a0_4 a0_5 l0_6) else (laws_FnExactBatchBytes.j1 kj10 t298 t301 t312 true a0_0 a0_1 a0_2 a0_3 a0_4 a0_5 l0_6))))) else (some false)) = some r := H
          have A34 := qk12 A340
          clear A340
          by_cases c35 : t326 = true
          · subst c35
            have H1 : ((laws_markBatch.f kj10 t302 t303 t304 t305 t306 t307 t308 1).bind fun bt327 => (if bt327.1 < 0 then (laws_FnExactBatchBytes.j1 kj10 t298 t301 t312 true a0_0 a0_1 a0_2 a0_3 a0_4 a0_5 l0_6) else ((laws_eqByteS.f kj10 t312 t298).bind fun t329 => (if t329 = true then (laws_FnExactBatchBytes.j1 kj10 t298 t301 t312 (t315 != t301) a0_0 a0_1 a0_2 a0_3 a0_4 a0_5 l0_6) else (laws_FnExactBatchBytes.j1 kj10 t298 t301 t312 true a0_0 a0_1 a0_2 a0_3 a0_4 a0_5 l0_6))))) = some r := by rw [if_pos rfl] at H; exact H
            clear H
            have H := H1
            clear H1
            replace H := Option.bind_eq_some_iff.mp H
            obtain ⟨⟨t327, t328⟩, A360, H⟩ := H
            replace H : (if t327 < 0 then (laws_FnExactBatchBytes.j1 kj10 t298 t301 t312 true a0_0 a0_1 a0_2 a0_3 a0_4 a0_5 l0_6) else ((laws_eqByteS.f kj10 t312 t298).bind fun t329 => (if t329 = true then (laws_FnExactBatchBytes.j1 kj10 t298 t301 t312 (t315 != t301) a0_0 a0_1 a0_2 a0_3 a0_4 a0_5 l0_6) else (laws_FnExactBatchBytes.j1 kj10 t298 t301 t312 true a0_0 a0_1 a0_2 a0_3 a0_4 a0_5 l0_6)))) = some r := H
            have A36 := qk12 A360
            clear A360
            have HC37 := qk12 H
            clear H
            try go_wp2
            have n0_ := qk12 (qf12 HO_4.out)
            have n1_ := qk12 (qf12 HO_7.out)
            have n2_ := qk12 (qf12 HO_312006.out)
            have n3_ := qk12 (qb12 BK287.out)
            have n4_ := qk12 (qb12 BK311.out)
            have n5_ := qk12 (qi12 HB.out)
            clear HO_4
            clear HO_7
            clear HO_312006
            clear BK287
            clear BK311
            clear HB
            have HO_4 := n0_
            have HO_7 := n1_
            have HO_312006 := n2_
            have BK287 := n3_
            have BK311 := n4_
            have HB := n5_
            clear n0_ n1_ n2_ n3_ n4_ n5_
            refine start_ (n := 5) (S := fun w' => w'.cell? ⟨gb311, 0, none⟩ = some (.bool t302) ∧ w'.cell? ⟨gb311, 1, none⟩ = some (.int .i64 t303) ∧ w'.cell? ⟨gb311, 2, none⟩ = some (.int .i64 t304) ∧ w'.cell? ⟨gb311, 3, none⟩ = some (.int .i64 t305) ∧ w'.cell? ⟨gb311, 4, none⟩ = some (.int .i64 t306) ∧ w'.cell? ⟨gb311, 5, none⟩ = some (.string t307) ∧ w'.cell? ⟨gb311, 6, none⟩ = some (.slice Ao24 t308.length co24) ∧ w'.cell? ⟨gb287, 0, none⟩ = some (.bool a0_0) ∧ w'.cell? ⟨gb287, 1, none⟩ = some (.int .i64 a0_1) ∧ w'.cell? ⟨gb287, 2, none⟩ = some (.int .i64 a0_2) ∧ w'.cell? ⟨gb287, 3, none⟩ = some (.int .i64 a0_3) ∧ w'.cell? ⟨gb287, 4, none⟩ = some (.int .i64 a0_4) ∧ w'.cell? ⟨gb287, 5, none⟩ = some (.string a0_5) ∧ w'.cell? ⟨gb287, 6, none⟩ = some (.slice A0_6 l0_6.length c0_6)) (ds := []) #[false, false, false, false, false] (by kernel_rfl) rfl rfl ⟨(blk_cell BK311.out 0).trans rfl, (blk_cell BK311.out 1).trans rfl, (blk_cell BK311.out 2).trans rfl, (blk_cell BK311.out 3).trans rfl, (blk_cell BK311.out 4).trans rfl, (blk_cell BK311.out 5).trans rfl, (blk_cell BK311.out 6).trans rfl, (blk_cell BK287.out 0).trans rfl, (blk_cell BK287.out 1).trans rfl, (blk_cell BK287.out 2).trans rfl, (blk_cell BK287.out 3).trans rfl, (blk_cell BK287.out 4).trans rfl, (blk_cell BK287.out 5).trans rfl, (blk_cell BK287.out 6).trans rfl⟩ (fun hHeld => ?_)
            generalize wc.drew = w38 at HO_4 HO_7 HO_312006 BK287 BK311 HB hHeld ⊢
            refine take_ (i := 0) (N := some 41) (v := ?_) (a' := ?_) #[true, false, false, false, false] rfl rfl (by kernel_rfl) (fun _ _ _ h => h) (Or.inl ⟨by rfl, ?_⟩) hHeld ?_ ?_
            rotate_left
            · rintro w' ⟨s0, s1, s2, s3, s4, s5, s6, s7, s8, s9, s10, s11, s12, s13⟩
              go_simp
              with_reducible rfl
            rotate_left
            · simp only [Act.put, List.setIfInBounds_toArray, List.set_cons_zero, List.set_cons_succ, i64_w, i32_w]
              rfl
            refine take_ (i := 1) (N := some 42) (v := ?_) (a' := ?_) #[true, true, false, false, false] rfl rfl (by kernel_rfl) (fun _ _ _ h => h) (Or.inl ⟨by rfl, ?_⟩) hHeld ?_ ?_
            rotate_left
            · rintro w' ⟨s0, s1, s2, s3, s4, s5, s6, s7, s8, s9, s10, s11, s12, s13⟩
              go_simp
              with_reducible rfl
            rotate_left
            · simp only [Act.put, List.setIfInBounds_toArray, List.set_cons_zero, List.set_cons_succ, i64_w, i32_w]
              rfl
            refine one_ (i := 2) (N := some 43) #[true, true, true, false, false] rfl rfl (by kernel_rfl) (by decide) (fun K hK => ?_)
            refine goes_ Try.func45 (by kernel_rfl) rfl #[.agg #[.bool a0_0, .int .i64 a0_1, .int .i64 a0_2, .int .i64 a0_3, .int .i64 a0_4, .string a0_5, .slice A0_6 l0_6.length c0_6]] (by rfl) rfl rfl (by (try simp only [List.map_toArray, List.map_cons, List.map_nil]); first | done | rfl | (simp only [List.length_drop, List.length_take]; rfl)) ?_
            with_reducible refine (laws_toBatch.calls kj10 a0_0 a0_1 a0_2 a0_3 a0_4 a0_5 _ _ l0_6 t317 t318 t319 t320 t321 t322 t323 _ ?side1 ?side2 A33.out).mono ?_
            (case side1 => repeat (first | exact (Kd.C_below HR0_6.out HB.out) | (with_reducible refine Kd.C_alloc ?_ _) | (with_reducible refine Kd.C_drewN ?_ _) | (with_reducible refine Kd.C_drew ?_)))
            (case side2 => exact HC0_6.out)
            rintro e w39 ⟨v324, rfl, ho0, hb⟩
            refine ⟨_, rfl, ?_⟩
            have n0_ := qk12 (Kd.R_below (by (with_reducible repeat (first | apply qd12 | apply qe12 | apply qf12)); exact HO_4.out) hb)
            have n1_ := qk12 (Kd.R_below (by (with_reducible repeat (first | apply qd12 | apply qe12 | apply qf12)); exact HO_7.out) hb)
            have n2_ := qk12 (Kd.R_elder' (by (with_reducible repeat (first | apply qd12 | apply qe12 | apply qf12)); exact HO_312006.out) (Kd.R_base ho0) hb)
            have n3_ := qk12 (Kd.R_lower (Kd.R_new' ho0 (Kd.R_lt (by (with_reducible repeat (first | apply qd12 | apply qe12 | apply qf12)); exact HO_312006.out))) (below_size (by repeat (first | (with_reducible first | exact HB.out | apply qg12 | apply qh12 | apply qi12 | refine qj12 ?_ GE287.out | refine qj12 ?_ GE311.out) | exact HB.out))))
            have n4_ := qk12 (blk_below (g := gb287) (o := .cells #[.bool a0_0, .int .i64 a0_1, .int .i64 a0_2, .int .i64 a0_3, .int .i64 a0_4, .string a0_5, .slice A0_6 l0_6.length c0_6] 55 (0, 0)) (by (with_reducible repeat (first | apply qa12 | apply qb12 | apply qc12)); exact BK287.out) hb)
            have n5_ := qk12 (blk_below (g := gb311) (o := .cells #[.bool t302, .int .i64 t303, .int .i64 t304, .int .i64 t305, .int .i64 t306, .string t307, .slice Ao24 t308.length co24] 60 (0, 0)) (by (with_reducible repeat (first | apply qa12 | apply qb12 | apply qc12)); exact BK311.out) hb)
            have n6_ := qk12 (below_step (by repeat (first | (with_reducible first | exact HB.out | apply qg12 | apply qh12 | apply qi12 | refine qj12 ?_ GE287.out | refine qj12 ?_ GE311.out) | exact HB.out)) hb)
            clear HO_4
            clear HO_7
            clear HO_312006
            clear BK287
            clear BK311
            clear HB
            have HO_4 := n0_
            have HO_7 := n1_
            have HO_312006 := n2_
            have HO325 := n3_
            have BK287 := n4_
            have BK311 := n5_
            have HB := n6_
            clear n0_ n1_ n2_ n3_ n4_ n5_ n6_
            (try clear hb)
            (try clear hb2)
            (try clear hk)
            (try clear hi)
            (try clear ho0)
            obtain ⟨Ao40, co40, eo40⟩ := Kd.R_slice HO325.out
            (first | subst eo40 | (injection eo40 with f1_ f2_ f3_; have f4_ := f1_.symm; have f5_ := f3_.symm; clear f1_ f2_ f3_; subst f4_; subst f5_))
            refine hK.out _ _ ⟨(blk_cell BK311.out 0).trans rfl, (blk_cell BK311.out 1).trans rfl, (blk_cell BK311.out 2).trans rfl, (blk_cell BK311.out 3).trans rfl, (blk_cell BK311.out 4).trans rfl, (blk_cell BK311.out 5).trans rfl, (blk_cell BK311.out 6).trans rfl, (blk_cell BK287.out 0).trans rfl, (blk_cell BK287.out 1).trans rfl, (blk_cell BK287.out 2).trans rfl, (blk_cell BK287.out 3).trans rfl, (blk_cell BK287.out 4).trans rfl, (blk_cell BK287.out 5).trans rfl, (blk_cell BK287.out 6).trans rfl⟩ (fun hHeld => ?_)
            clear hK K
            refine norm_ (a' := ?_) ?_ ?_
            rotate_left
            · show Act.put _ (some 43) _ = _
              simp only [Act.put, List.setIfInBounds_toArray, List.set_cons_zero, List.set_cons_succ, i64_w, i32_w]
              rfl
            refine one_ (i := 3) (N := some 44) #[true, true, true, true, false] rfl rfl (by kernel_rfl) (by decide) (fun K hK => ?_)
            refine goes_ Try.func47 (by kernel_rfl) rfl #[.agg #[.bool t302, .int .i64 t303, .int .i64 t304, .int .i64 t305, .int .i64 t306, .string t307, .slice Ao24 t308.length co24], .agg #[.bool t317, .int .i64 t318, .int .i64 t319, .int .i64 t320, .int .i64 t321, .string t322, .slice Ao40 t323.length co40]] (by rfl) rfl rfl (by (try simp only [List.map_toArray, List.map_cons, List.map_nil]); first | done | rfl | (simp only [List.length_drop, List.length_take]; rfl)) ?_
            with_reducible refine (laws_eqBatch.calls kj10 t302 t303 t304 t305 t306 t307 _ _ t308 t317 t318 t319 t320 t321 t322 _ _ t323 true _ ?side1 ?side2 ?side3 ?side4 A34.out).mono ?_
            (case side1 => repeat (first | exact (Kd.R_reads' HO_312006.out).2.2 | (with_reducible refine Kd.C_alloc ?_ _) | (with_reducible refine Kd.C_drewN ?_ _) | (with_reducible refine Kd.C_drew ?_)))
            (case side2 => exact (Kd.R_reads' HO_312006.out).2.1)
            (case side3 => repeat (first | exact (Kd.R_reads' HO325.out).2.2 | (with_reducible refine Kd.C_alloc ?_ _) | (with_reducible refine Kd.C_drewN ?_ _) | (with_reducible refine Kd.C_drew ?_)))
            (case side4 => exact (Kd.R_reads' HO325.out).2.1)
            rintro e w41 ⟨rfl, hb⟩
            refine ⟨_, rfl, ?_⟩
            have n0_ := qk12 (Kd.R_below (by (with_reducible repeat (first | apply qd12 | apply qe12 | apply qf12)); exact HO_4.out) hb)
            have n1_ := qk12 (Kd.R_below (by (with_reducible repeat (first | apply qd12 | apply qe12 | apply qf12)); exact HO_7.out) hb)
            have n2_ := qk12 (Kd.R_below (by (with_reducible repeat (first | apply qd12 | apply qe12 | apply qf12)); exact HO_312006.out) hb)
            have n3_ := qk12 (Kd.R_below (by (with_reducible repeat (first | apply qd12 | apply qe12 | apply qf12)); exact HO325.out) hb)
            have n4_ := qk12 (blk_below (g := gb287) (o := .cells #[.bool a0_0, .int .i64 a0_1, .int .i64 a0_2, .int .i64 a0_3, .int .i64 a0_4, .string a0_5, .slice A0_6 l0_6.length c0_6] 55 (0, 0)) (by (with_reducible repeat (first | apply qa12 | apply qb12 | apply qc12)); exact BK287.out) hb)
            have n5_ := qk12 (blk_below (g := gb311) (o := .cells #[.bool t302, .int .i64 t303, .int .i64 t304, .int .i64 t305, .int .i64 t306, .string t307, .slice Ao24 t308.length co24] 60 (0, 0)) (by (with_reducible repeat (first | apply qa12 | apply qb12 | apply qc12)); exact BK311.out) hb)
            have n6_ := qk12 (below_step (by repeat (first | (with_reducible first | exact HB.out | apply qg12 | apply qh12 | apply qi12 | refine qj12 ?_ GE287.out | refine qj12 ?_ GE311.out) | exact HB.out)) hb)
            clear HO_4
            clear HO_7
            clear HO_312006
            clear HO325
            clear BK287
            clear BK311
            clear HB
            have HO_4 := n0_
            have HO_7 := n1_
            have HO_312006 := n2_
            have HO325 := n3_
            have BK287 := n4_
            have BK311 := n5_
            have HB := n6_
            clear n0_ n1_ n2_ n3_ n4_ n5_ n6_
            (try clear hb)
            (try clear hb2)
            (try clear hk)
            (try clear hi)
            refine hK.out _ _ ⟨(blk_cell BK311.out 0).trans rfl, (blk_cell BK311.out 1).trans rfl, (blk_cell BK311.out 2).trans rfl, (blk_cell BK311.out 3).trans rfl, (blk_cell BK311.out 4).trans rfl, (blk_cell BK311.out 5).trans rfl, (blk_cell BK311.out 6).trans rfl, (blk_cell BK287.out 0).trans rfl, (blk_cell BK287.out 1).trans rfl, (blk_cell BK287.out 2).trans rfl, (blk_cell BK287.out 3).trans rfl, (blk_cell BK287.out 4).trans rfl, (blk_cell BK287.out 5).trans rfl, (blk_cell BK287.out 6).trans rfl⟩ (fun hHeld => ?_)
            clear hK K
            refine norm_ (a' := ?_) ?_ ?_
            rotate_left
            · show Act.put _ (some 44) _ = _
              simp only [Act.put, List.setIfInBounds_toArray, List.set_cons_zero, List.set_cons_succ, i64_w, i32_w]
              rfl
            refine pure_ (i := 4) (N := some 45) (v := ?_) (a' := ?_) #[true, true, true, true, true] rfl rfl (by kernel_rfl) (fun _ _ _ h => h) (Or.inl ⟨by rfl, ?_⟩) ?_ ?_
            rotate_left
            · intro w'
              go_simp
              with_reducible rfl
            rotate_left
            · simp only [Act.put, List.setIfInBounds_toArray, List.set_cons_zero, List.set_cons_succ, i64_w, i32_w]
              rfl
            refine done_ (by kernel_rfl) ?_
            have hnb42 := NB311_287.out
            have hnc42 := NB287_311.out
            have hcz43_0 : w41.cell? ⟨gb311, 0, none⟩ = some (.bool t302) := (blk_cell BK311.out 0).trans rfl
            have hcz43_1 : w41.cell? ⟨gb311, 1, none⟩ = some (.int .i64 t303) := (blk_cell BK311.out 1).trans rfl
            have hcz43_2 : w41.cell? ⟨gb311, 2, none⟩ = some (.int .i64 t304) := (blk_cell BK311.out 2).trans rfl
            have hcz43_3 : w41.cell? ⟨gb311, 3, none⟩ = some (.int .i64 t305) := (blk_cell BK311.out 3).trans rfl
            have hcz43_4 : w41.cell? ⟨gb311, 4, none⟩ = some (.int .i64 t306) := (blk_cell BK311.out 4).trans rfl
            have hcz43_5 : w41.cell? ⟨gb311, 5, none⟩ = some (.string t307) := (blk_cell BK311.out 5).trans rfl
            have hcz43_6 : w41.cell? ⟨gb311, 6, none⟩ = some (.slice Ao24 t308.length co24) := (blk_cell BK311.out 6).trans rfl
            have hfz43_0 := blk_frozen BK311.out 0
            have hfz43_1 := blk_frozen BK311.out 1
            have hfz43_2 := blk_frozen BK311.out 2
            have hfz43_3 := blk_frozen BK311.out 3
            have hfz43_4 := blk_frozen BK311.out 4
            have hfz43_5 := blk_frozen BK311.out 5
            have hfz43_6 := blk_frozen BK311.out 6
            go_upto_region 14 with (first | ((with_reducible refine gate_callee (f := 48) rfl ?_); refine goesL_ (some 48) rfl rfl Try.func48 (by kernel_rfl) rfl #[.agg #[.bool t302, .int .i64 t303, .int .i64 t304, .int .i64 t305, .int .i64 t306, .string t307, .slice Ao24 t308.length co24], .int .i64 1] rfl (by (try simp only [List.map_toArray, List.map_cons, List.map_nil]); first | done | rfl | (simp only [List.length_drop, List.length_take]; rfl)) ?_; (with_reducible refine (laws_markBatch.calls kj10 t302 t303 t304 t305 t306 t307 (fun k_ => some k_ = (.slice Ao24 t308.length co24 : Value).ownBlock) (.slice Ao24 t308.length co24) t308 1 t327 t328 w _ ?side1 ?side2 A36.out).mono ?_); (case side1 => repeat (first | (with_reducible first | exact HB.out | apply qg12 | apply qh12 | apply qi12 | refine qj12 ?_ GE287.out | refine qj12 ?_ GE311.out) | exact HB.out)); (case side2 => exact Kd.R_tight rfl HO_312006.out); rintro e w44 ⟨rfl, hy0, hb, hkp⟩; refine ⟨_, rfl, ?_⟩; have n0_ := qk12 (Kd.R_mono (ok' := fun k_ => some k_ ≠ (v313 : Value).ownBlock) (Kd.R_keptB ((Kd.R_apart' HO_4.out (Kd.R_typed HO_312006.out) (by decide))) hkp (fun k_ hk_ hs_ => (hk_.2) hs_)) (fun k_ hk_ => hk_.1.1)); have n1_ := qk12 (Kd.R_mono (ok' := fun k_ => some k_ ≠ (v299 : Value).ownBlock) (Kd.R_keptB ((Kd.R_apart' HO_7.out (Kd.R_typed HO_312006.out) (by decide))) hkp (fun k_ hk_ hs_ => (hk_.2) hs_)) (fun k_ hk_ => hk_.1.1)); have n2_ := qk12 (Kd.R_reok rfl hy0 (fun k_ e_ => HO_312006.out.1 k_ e_)); have n3_ := qk12 (blk_kept (by (with_reducible repeat (first | apply qa12 | apply qb12 | apply qc12)); exact BK287.out) hkp (fun hs_ => (fun e_ => (Kd.R_ne HO_312006.out BK287.out (by decide)) e_) hs_)); have n4_ := qk12 (blk_kept (by (with_reducible repeat (first | apply qa12 | apply qb12 | apply qc12)); exact BK311.out) hkp (fun hs_ => (fun e_ => (Kd.R_ne HO_312006.out BK311.out (by decide)) e_) hs_)); have n5_ := qk12 (Kd.R_mono (ok' := fun k_ => some k_ ≠ (.slice Ao24 t308.length co24 : Value).ownBlock) (Kd.R_keptB (HO325.out) hkp (fun k_ hk_ hs_ => (hk_.2) hs_)) (fun k_ hk_ => hk_.1.2)); have n6_ := qk12 (hb); clear HO_4; clear HO_7; clear HO_312006; clear BK287; clear BK311; clear HO325; clear HB; have HO_4 := n0_; have HO_7 := n1_; have HO_312006 := n2_; have BK287 := n3_; have BK311 := n4_; have HO325 := n5_; have HB := n6_; clear n0_ n1_ n2_ n3_ n4_ n5_ n6_; (try clear hb); (try clear hkp); (try clear hy0)))
            (try simp only [Act.put, List.setIfInBounds_toArray, List.set_cons_zero, List.set_cons_succ])
            go_cut [61] (fun v61 wc => ∃ (kq : Nat) (x61_36 : Bool), v61 = .bool x61_36 ∧ Aside0 (laws_FnExactBatchBytes.j1 kq t298 t301 t312 x61_36 a0_0 a0_1 a0_2 a0_3 a0_4 a0_5 l0_6 = some r) ∧ Aside0 (kq ≤ kj10) ∧ Aside0 (Kd.R (Kd.int .u8) 5 wc w.heap.size (fun k_ => some k_ ≠ (v313 : Value).ownBlock) v299 t298) ∧ Aside0 (Kd.R (Kd.int .u8) 5 wc w.heap.size (fun k_ => some k_ ≠ (v299 : Value).ownBlock) v313 t312) ∧ Aside0 (Kd.R k137 137 wc w.heap.size (fun _ => True) (.slice Ao24 t308.length co24) t328) ∧ Aside0 (wc.heap[gb287]? = some (.cells #[.bool a0_0, .int .i64 a0_1, .int .i64 a0_2, .int .i64 a0_3, .int .i64 a0_4, .string a0_5, (.slice A0_6 l0_6.length c0_6)] 55 (0, 0))) ∧ Aside0 (wc.heap[gb311]? = some (.cells #[.bool t302, .int .i64 t303, .int .i64 t304, .int .i64 t305, .int .i64 t306, .string t307, (.slice Ao24 t308.length co24)] 60 (0, 0))) ∧ Aside0 (Below w.heap.size w wc))
            case first =>
              have H := HC37.out
              clear HC37
              by_cases c45 : t327 < 0
              · rw [if_pos c45] at H
                have c45b0 : decide (t327 < 0) = true := decide_eq_true c45
                clear c45
                (first | rw [c45b0] | (simp only [i64_w, i32_w]; rw [c45b0]) | skip)
                have H' := qk12 H
                clear H
                go_wp2
                go_meet
                case rel => exact ⟨_, (true), (by first | rfl | (simp; done) | (simp [*]; done)), H', ⟨by have := HJ10.out; first | omega | exact Nat.le_refl _⟩, ⟨by (with_reducible repeat (first | apply qd12 | apply qe12 | apply qf12)); exact HO_4.out⟩, ⟨by (with_reducible repeat (first | apply qd12 | apply qe12 | apply qf12)); exact HO_7.out⟩, ⟨by (with_reducible repeat (first | apply qd12 | apply qe12 | apply qf12)); exact Kd.R_mono HO_312006.out (fun _ hk => trivial)⟩, ⟨by (with_reducible repeat (first | apply qa12 | apply qb12 | apply qc12)); exact BK287.out⟩, ⟨by (with_reducible repeat (first | apply qa12 | apply qb12 | apply qc12)); exact BK311.out⟩, ⟨by repeat (first | (with_reducible first | exact HB.out | apply qg12 | apply qh12 | apply qi12 | refine qj12 ?_ GE287.out | refine qj12 ?_ GE311.out) | exact HB.out)⟩⟩
              · rw [if_neg c45] at H
                have c45b0 : decide (t327 < 0) = false := decide_eq_false c45
                clear c45
                (first | rw [c45b0] | (simp only [i64_w, i32_w]; rw [c45b0]) | skip)
                replace H := Option.bind_eq_some_iff.mp H
                obtain ⟨t329, A460, H⟩ := H
                replace H : (if t329 = true then (laws_FnExactBatchBytes.j1 kj10 t298 t301 t312 (t315 != t301) a0_0 a0_1 a0_2 a0_3 a0_4 a0_5 l0_6) else (laws_FnExactBatchBytes.j1 kj10 t298 t301 t312 true a0_0 a0_1 a0_2 a0_3 a0_4 a0_5 l0_6)) = some r := H
                have A46 := qk12 A460
                clear A460
                by_cases c47 : t329 = true
                · subst c47
                  have H1 : (laws_FnExactBatchBytes.j1 kj10 t298 t301 t312 (t315 != t301) a0_0 a0_1 a0_2 a0_3 a0_4 a0_5 l0_6) = some r := by rw [if_pos rfl] at H; exact H
                  clear H
                  have H := H1
                  clear H1
                  have H' := qk12 H
                  clear H
                  obtain ⟨Ao48, co48, eo48⟩ := Kd.R_slice HO_7.out
                  subst eo48
                  obtain ⟨Ao49, co49, eo49⟩ := Kd.R_slice HO_4.out
                  subst eo49
                  go_wp2_with (first | (go_at_call 26; (with_reducible refine (laws_eqByteS.calls kj10 _ _ t312 _ _ t298 true _ ?side1 ?side2 ?side3 ?side4 A46.out).mono ?_); (case side1 => repeat (first | exact (Kd.R_reads' HO_7.out).2.2 | (with_reducible refine Kd.C_alloc ?_ _) | (with_reducible refine Kd.C_drewN ?_ _) | (with_reducible refine Kd.C_drew ?_))); (case side2 => exact (Kd.R_reads' HO_7.out).2.1); (case side3 => repeat (first | exact (Kd.R_reads' HO_4.out).2.2 | (with_reducible refine Kd.C_alloc ?_ _) | (with_reducible refine Kd.C_drewN ?_ _) | (with_reducible refine Kd.C_drew ?_))); (case side4 => exact (Kd.R_reads' HO_4.out).2.1); rintro e w' ⟨rfl, ⟨nd, rfl⟩⟩))
                  go_meet
                  case rel => exact ⟨_, ((t315 != t301)), (by first | rfl | (simp; done) | (simp [*]; done)), H', ⟨by have := HJ10.out; first | omega | exact Nat.le_refl _⟩, ⟨by (with_reducible repeat (first | apply qd12 | apply qe12 | apply qf12)); exact HO_4.out⟩, ⟨by (with_reducible repeat (first | apply qd12 | apply qe12 | apply qf12)); exact HO_7.out⟩, ⟨by (with_reducible repeat (first | apply qd12 | apply qe12 | apply qf12)); exact Kd.R_mono HO_312006.out (fun _ hk => trivial)⟩, ⟨by (with_reducible repeat (first | apply qa12 | apply qb12 | apply qc12)); exact BK287.out⟩, ⟨by (with_reducible repeat (first | apply qa12 | apply qb12 | apply qc12)); exact BK311.out⟩, ⟨by repeat (first | (with_reducible first | exact HB.out | apply qg12 | apply qh12 | apply qi12 | refine qj12 ?_ GE287.out | refine qj12 ?_ GE311.out) | exact HB.out)⟩⟩
                · replace c47 := Bool.eq_false_iff.mpr c47
                  subst c47
                  have H1 : (laws_FnExactBatchBytes.j1 kj10 t298 t301 t312 true a0_0 a0_1 a0_2 a0_3 a0_4 a0_5 l0_6) = some r := by rw [if_neg (show ¬ (false = true) by decide)] at H; exact H
                  clear H
                  have H := H1
                  clear H1
                  have H' := qk12 H
                  clear H
                  obtain ⟨Ao50, co50, eo50⟩ := Kd.R_slice HO_7.out
                  subst eo50
                  obtain ⟨Ao51, co51, eo51⟩ := Kd.R_slice HO_4.out
                  subst eo51
                  go_wp2_with (first | (go_at_call 26; (with_reducible refine (laws_eqByteS.calls kj10 _ _ t312 _ _ t298 false _ ?side1 ?side2 ?side3 ?side4 A46.out).mono ?_); (case side1 => repeat (first | exact (Kd.R_reads' HO_7.out).2.2 | (with_reducible refine Kd.C_alloc ?_ _) | (with_reducible refine Kd.C_drewN ?_ _) | (with_reducible refine Kd.C_drew ?_))); (case side2 => exact (Kd.R_reads' HO_7.out).2.1); (case side3 => repeat (first | exact (Kd.R_reads' HO_4.out).2.2 | (with_reducible refine Kd.C_alloc ?_ _) | (with_reducible refine Kd.C_drewN ?_ _) | (with_reducible refine Kd.C_drew ?_))); (case side4 => exact (Kd.R_reads' HO_4.out).2.1); rintro e w' ⟨rfl, ⟨nd, rfl⟩⟩))
                  go_meet
                  case rel => exact ⟨_, (true), (by first | rfl | (simp; done) | (simp [*]; done)), H', ⟨by have := HJ10.out; first | omega | exact Nat.le_refl _⟩, ⟨by (with_reducible repeat (first | apply qd12 | apply qe12 | apply qf12)); exact HO_4.out⟩, ⟨by (with_reducible repeat (first | apply qd12 | apply qe12 | apply qf12)); exact HO_7.out⟩, ⟨by (with_reducible repeat (first | apply qd12 | apply qe12 | apply qf12)); exact Kd.R_mono HO_312006.out (fun _ hk => trivial)⟩, ⟨by (with_reducible repeat (first | apply qa12 | apply qb12 | apply qc12)); exact BK287.out⟩, ⟨by (with_reducible repeat (first | apply qa12 | apply qb12 | apply qc12)); exact BK311.out⟩, ⟨by repeat (first | (with_reducible first | exact HB.out | apply qg12 | apply qh12 | apply qi12 | refine qj12 ?_ GE287.out | refine qj12 ?_ GE311.out) | exact HB.out)⟩⟩
            case rest =>
              clear HC37
              try clear c1
              try clear c2
              try clear p2
              try clear c3
              try clear c3b0
              try clear c4
              try clear c11
              try clear c22
              try clear c26
              try clear c27
              try clear c32
              try clear c35
              try clear c42
              try clear c43
              try clear c44
              try clear c45
              try clear c45b0
              try clear c46
              try clear c47
              try clear c48
              try clear hcz13_0
              try clear hcz13_1
              try clear hcz13_2
              try clear hcz13_3
              try clear hcz13_4
              try clear hcz13_5
              try clear hcz13_6
              try clear hcz15_0
              try clear hcz15_1
              try clear hcz15_2
              try clear hcz15_3
              try clear hcz15_4
              try clear hcz15_5
              try clear hcz15_6
              try clear hcz19_0
              try clear hcz19_1
              try clear hcz19_2
              try clear hcz19_3
              try clear hcz19_4
              try clear hcz19_5
              try clear hcz19_6
              try clear hcz23_0
              try clear hcz23_1
              try clear hcz23_2
              try clear hcz23_3
              try clear hcz23_4
              try clear hcz23_5
              try clear hcz23_6
              try clear hcz43_0
              try clear hcz43_1
              try clear hcz43_2
              try clear hcz43_3
              try clear hcz43_4
              try clear hcz43_5
              try clear hcz43_6
              try clear hcz5_0
              try clear hcz5_1
              try clear hcz5_2
              try clear hcz5_3
              try clear hcz5_4
              try clear hcz5_5
              try clear hcz5_6
              try clear hfz13_0
              try clear hfz13_1
              try clear hfz13_2
              try clear hfz13_3
              try clear hfz13_4
              try clear hfz13_5
              try clear hfz13_6
              try clear hfz15_0
              try clear hfz15_1
              try clear hfz15_2
              try clear hfz15_3
              try clear hfz15_4
              try clear hfz15_5
              try clear hfz15_6
              try clear hfz19_0
              try clear hfz19_1
              try clear hfz19_2
              try clear hfz19_3
              try clear hfz19_4
              try clear hfz19_5
              try clear hfz19_6
              try clear hfz23_0
              try clear hfz23_1
              try clear hfz23_2
              try clear hfz23_3
              try clear hfz23_4
              try clear hfz23_5
              try clear hfz23_6
              try clear hfz43_0
              try clear hfz43_1
              try clear hfz43_2
              try clear hfz43_3
              try clear hfz43_4
              try clear hfz43_5
              try clear hfz43_6
              try clear hfz5_0
              try clear hfz5_1
              try clear hfz5_2
              try clear hfz5_3
              try clear hfz5_4
              try clear hfz5_5
              try clear hfz5_6
              try clear p2
              obtain ⟨kq, x61_36, rfl, HA, HJ36, HO_4, HO_7, HO_312006, BK287, BK311, HB⟩ := hcut
              have hl312006_36 := (Kd.R_reads' HO_312006.out).1
              rw [hl312006_36] at HO_312006
              (try simp only [hl312006_36])
              (try simp only [hl312006_36] at BK287)
              (try simp only [hl312006_36] at BK311)
              (try simp only [hl312006_36] at HO_4)
              (try simp only [hl312006_36] at HO_7)
              cases kq with
              | zero => exact absurd HA.out (by simp [laws_FnExactBatchBytes.j1])
              | succ kj36 =>
                have H := HA.out
                clear HA
                simp only [laws_FnExactBatchBytes.j1] at H
                by_cases c52 : x61_36 = true
                · subst c52
                  have H1 : (some false) = some r := by rw [if_pos rfl] at H; exact H
                  clear H
                  have H := H1
                  clear H1
                  obtain rfl := Option.some.inj H
                  go_wp2
                  go_ret
                  exact ⟨by first | rfl | (simp [errW_none, errW_some] <;> rfl) | (simp [*, errW_none, errW_some] <;> rfl), by repeat (first | (with_reducible first | exact HB.out | apply qg12 | apply qh12 | apply qi12 | refine qj12 ?_ GE287.out | refine qj12 ?_ GE311.out) | exact HB.out)⟩
                · replace c52 := Bool.eq_false_iff.mpr c52
                  subst c52
                  have H1 : ((laws_markByteS.f kj36 t312 1).bind fun bt330 => ((laws_heldByteS.f kj36 bt330.2 1).bind fun t332 => (if t332 < 0 then (some false) else (if t332 = bt330.1 then ((laws_toBatch.f kj36 a0_0 a0_1 a0_2 a0_3 a0_4 a0_5 l0_6).bind fun bt333 => ((impl_BatchBytes.f kj36 bt333.1 bt333.2.1 bt333.2.2.1 bt333.2.2.2.1 bt333.2.2.2.2.1 bt333.2.2.2.2.2.1 bt333.2.2.2.2.2.2).bind fun bt342 => ((laws_eqByteS.f kj36 bt342.1 t298).bind fun t346 => (if t346 = true then (laws_FnExactBatchBytes.j2 kj36 bt330.2 bt330.1 (bt342.2 != t301)) else (laws_FnExactBatchBytes.j2 kj36 bt330.2 bt330.1 true))))) else (some false))))) = some r := by rw [if_neg (show ¬ (false = true) by decide)] at H; exact H
                  clear H
                  have H := H1
                  clear H1
                  replace H := Option.bind_eq_some_iff.mp H
                  obtain ⟨⟨t330, t331⟩, A530, H⟩ := H
                  replace H : ((laws_heldByteS.f kj36 t331 1).bind fun t332 => (if t332 < 0 then (some false) else (if t332 = t330 then ((laws_toBatch.f kj36 a0_0 a0_1 a0_2 a0_3 a0_4 a0_5 l0_6).bind fun bt333 => ((impl_BatchBytes.f kj36 bt333.1 bt333.2.1 bt333.2.2.1 bt333.2.2.2.1 bt333.2.2.2.2.1 bt333.2.2.2.2.2.1 bt333.2.2.2.2.2.2).bind fun bt342 => ((laws_eqByteS.f kj36 bt342.1 t298).bind fun t346 => (if t346 = true then (laws_FnExactBatchBytes.j2 kj36 t331 t330 (bt342.2 != t301)) else (laws_FnExactBatchBytes.j2 kj36 t331 t330 true))))) else (some false)))) = some r := H
                  have A53 := qk12 A530
                  clear A530
                  replace H := Option.bind_eq_some_iff.mp H
                  obtain ⟨t332, A540, H⟩ := H
                  replace H : (if t332 < 0 then (some false) else (if t332 = t330 then ((laws_toBatch.f kj36 a0_0 a0_1 a0_2 a0_3 a0_4 a0_5 l0_6).bind fun bt333 => ((impl_BatchBytes.f kj36 bt333.1 bt333.2.1 bt333.2.2.1 bt333.2.2.2.1 bt333.2.2.2.2.1 bt333.2.2.2.2.2.1 bt333.2.2.2.2.2.2).bind fun bt342 => ((laws_eqByteS.f kj36 bt342.1 t298).bind fun t346 => (if t346 = true then (laws_FnExactBatchBytes.j2 kj36 t331 t330 (bt342.2 != t301)) else (laws_FnExactBatchBytes.j2 kj36 t331 t330 true))))) else (some false))) = some r := H
                  have A54 := qk12 A540
                  clear A540
                  by_cases c55 : t332 < 0
                  · rw [if_pos c55] at H
                    have c55b0 : decide (t332 < 0) = true := decide_eq_true c55
                    clear c55
                    obtain rfl := Option.some.inj H
                    obtain ⟨Ao56, co56, eo56⟩ := Kd.R_slice HO_7.out
                    subst eo56
                    go_wp2_with (first | ((with_reducible refine gate_callee (f := 31) rfl ?_); refine goesL_ (some 64) rfl rfl Try.func31 (by kernel_rfl) rfl #[.slice Ao56 t312.length co56, .int .i64 1] rfl (by (try simp only [List.map_toArray, List.map_cons, List.map_nil]); first | done | rfl | (simp only [List.length_drop, List.length_take]; rfl)) ?_; (with_reducible refine (laws_markByteS.calls kj36 (fun k_ => some k_ = (.slice Ao56 t312.length co56 : Value).ownBlock) (.slice Ao56 t312.length co56) t312 1 t330 t331 w _ ?side1 ?side2 A53.out).mono ?_); (case side1 => repeat (first | (with_reducible first | exact HB.out | apply qg12 | apply qh12 | apply qi12 | refine qj12 ?_ GE287.out | refine qj12 ?_ GE311.out) | exact HB.out)); (case side2 => exact Kd.R_tight rfl HO_7.out); rintro e w57 ⟨rfl, hy0, hb, hkp⟩; refine ⟨_, rfl, ?_⟩; have n0_ := qk12 (Kd.R_mono (ok' := fun k_ => some k_ ≠ (.slice Ao56 t312.length co56 : Value).ownBlock) (Kd.R_keptB (HO_4.out) hkp (fun k_ hk_ hs_ => (hk_) hs_)) (fun k_ hk_ => hk_.1)); have n1_ := qk12 (Kd.R_reok rfl hy0 (fun k_ e_ => HO_7.out.1 k_ e_)); have n2_ := qk12 (Kd.R_mono (ok' := fun k_ => True) (Kd.R_keptB ((Kd.R_apart' HO_312006.out (Kd.R_typed HO_7.out) (by decide))) hkp (fun k_ hk_ hs_ => (hk_.2) hs_)) (fun k_ hk_ => trivial)); have n3_ := qk12 (blk_kept (by (with_reducible repeat (first | apply qa12 | apply qb12 | apply qc12)); exact BK287.out) hkp (fun hs_ => (fun e_ => (Kd.R_ne HO_7.out BK287.out (by decide)) e_) hs_)); have n4_ := qk12 (blk_kept (by (with_reducible repeat (first | apply qa12 | apply qb12 | apply qc12)); exact BK311.out) hkp (fun hs_ => (fun e_ => (Kd.R_ne HO_7.out BK311.out (by decide)) e_) hs_)); have n5_ := qk12 (hb); clear HO_4; clear HO_7; clear HO_312006; clear BK287; clear BK311; clear HB; have HO_4 := n0_; have HO_7 := n1_; have HO_312006 := n2_; have BK287 := n3_; have BK311 := n4_; have HB := n5_; clear n0_ n1_ n2_ n3_ n4_ n5_; (try clear hb); (try clear hkp); (try clear hy0)) | ((with_reducible refine gate_callee (f := 32) rfl ?_); refine goesL_ (some 67) rfl rfl Try.func32 (by kernel_rfl) rfl #[.slice Ao56 t331.length co56, .int .i64 1] rfl (by (try simp only [List.map_toArray, List.map_cons, List.map_nil]); first | done | (rw [show t331.length = t312.length from (Kd.R_reads' HO_7.out).1.symm] <;> rfl) | rfl | (simp only [List.length_drop, List.length_take]; rfl)) ?_; (with_reducible refine (laws_heldByteS.calls kj36 _ _ t331 1 t332 _ ?side1 ?side2 A54.out).mono ?_); (case side1 => repeat (first | exact (Kd.R_reads' HO_7.out).2.2 | (with_reducible refine Kd.C_alloc ?_ _) | (with_reducible refine Kd.C_drewN ?_ _) | (with_reducible refine Kd.C_drew ?_))); (case side2 => rw [show t331.length = t312.length from (Kd.R_reads' HO_7.out).1.symm]; exact (Kd.R_reads' HO_7.out).2.1); rintro e w' ⟨rfl, ⟨nd, rfl⟩⟩; refine ⟨_, rfl, ?_⟩))
                    go_ret
                    exact ⟨by first | rfl | (simp [errW_none, errW_some] <;> rfl) | (simp [*, errW_none, errW_some] <;> rfl), by repeat (first | (with_reducible first | exact HB.out | apply qg12 | apply qh12 | apply qi12 | refine qj12 ?_ GE287.out | refine qj12 ?_ GE311.out) | exact HB.out)⟩
                  · rw [if_neg c55] at H
                    have c55b0 : decide (t332 < 0) = false := decide_eq_false c55
                    clear c55
                    by_cases c58 : t332 = t330
                    · rw [if_pos c58] at H
                      have c58b0 : (t332 == t330) = true := beq_iff_eq.mpr c58
                      have c58b1 : (t332 != t330) = false := bne_eq_false_iff_eq.mpr c58
                      clear c58
                      replace H := Option.bind_eq_some_iff.mp H
                      obtain ⟨⟨t333, t334, t335, t336, t337, t338, t339⟩, A590, H⟩ := H
                      replace H : ((impl_BatchBytes.f kj36 t333 t334 t335 t336 t337 t338 t339).bind fun bt342 => ((laws_eqByteS.f kj36 bt342.1 t298).bind fun t346 => (if t346 = true then (laws_FnExactBatchBytes.j2 kj36 t331 t330 (bt342.2 != t301)) else (laws_FnExactBatchBytes.j2 kj36 t331 t330 true)))) = some r := H
                      have A59 := qk12 A590
                      clear A590
                      replace H := Option.bind_eq_some_iff.mp H
                      obtain ⟨⟨t342, t345⟩, A600, H⟩ := H
                      replace H : ((laws_eqByteS.f kj36 t342 t298).bind fun t346 => (if t346 = true then (laws_FnExactBatchBytes.j2 kj36 t331 t330 (t345 != t301)) else (laws_FnExactBatchBytes.j2 kj36 t331 t330 true))) = some r := H
                      have A60 := qk12 A600
                      clear A600
                      have HC61 := qk12 H
                      clear H
                      obtain ⟨Ao62, co62, eo62⟩ := Kd.R_slice HO_7.out
                      subst eo62
                      go_upto_region 25 with (first | ((with_reducible refine gate_callee (f := 31) rfl ?_); refine goesL_ (some 64) rfl rfl Try.func31 (by kernel_rfl) rfl #[.slice Ao62 t312.length co62, .int .i64 1] rfl (by (try simp only [List.map_toArray, List.map_cons, List.map_nil]); first | done | rfl | (simp only [List.length_drop, List.length_take]; rfl)) ?_; (with_reducible refine (laws_markByteS.calls kj36 (fun k_ => some k_ = (.slice Ao62 t312.length co62 : Value).ownBlock) (.slice Ao62 t312.length co62) t312 1 t330 t331 w _ ?side1 ?side2 A53.out).mono ?_); (case side1 => repeat (first | (with_reducible first | exact HB.out | apply qg12 | apply qh12 | apply qi12 | refine qj12 ?_ GE287.out | refine qj12 ?_ GE311.out) | exact HB.out)); (case side2 => exact Kd.R_tight rfl HO_7.out); rintro e w63 ⟨rfl, hy0, hb, hkp⟩; refine ⟨_, rfl, ?_⟩; have n0_ := qk12 (Kd.R_mono (ok' := fun k_ => some k_ ≠ (.slice Ao62 t312.length co62 : Value).ownBlock) (Kd.R_keptB (HO_4.out) hkp (fun k_ hk_ hs_ => (hk_) hs_)) (fun k_ hk_ => hk_.1)); have n1_ := qk12 (Kd.R_reok rfl hy0 (fun k_ e_ => HO_7.out.1 k_ e_)); have n2_ := qk12 (Kd.R_mono (ok' := fun k_ => True) (Kd.R_keptB ((Kd.R_apart' HO_312006.out (Kd.R_typed HO_7.out) (by decide))) hkp (fun k_ hk_ hs_ => (hk_.2) hs_)) (fun k_ hk_ => trivial)); have n3_ := qk12 (blk_kept (by (with_reducible repeat (first | apply qa12 | apply qb12 | apply qc12)); exact BK287.out) hkp (fun hs_ => (fun e_ => (Kd.R_ne HO_7.out BK287.out (by decide)) e_) hs_)); have n4_ := qk12 (blk_kept (by (with_reducible repeat (first | apply qa12 | apply qb12 | apply qc12)); exact BK311.out) hkp (fun hs_ => (fun e_ => (Kd.R_ne HO_7.out BK311.out (by decide)) e_) hs_)); have n5_ := qk12 (hb); clear HO_4; clear HO_7; clear HO_312006; clear BK287; clear BK311; clear HB; have HO_4 := n0_; have HO_7 := n1_; have HO_312006 := n2_; have BK287 := n3_; have BK311 := n4_; have HB := n5_; clear n0_ n1_ n2_ n3_ n4_ n5_; (try clear hb); (try clear hkp); (try clear hy0)) | ((with_reducible refine gate_callee (f := 32) rfl ?_); refine goesL_ (some 67) rfl rfl Try.func32 (by kernel_rfl) rfl #[.slice Ao62 t331.length co62, .int .i64 1] rfl (by (try simp only [List.map_toArray, List.map_cons, List.map_nil]); first | done | (rw [show t331.length = t312.length from (Kd.R_reads' HO_7.out).1.symm] <;> rfl) | rfl | (simp only [List.length_drop, List.length_take]; rfl)) ?_; (with_reducible refine (laws_heldByteS.calls kj36 _ _ t331 1 t332 _ ?side1 ?side2 A54.out).mono ?_); (case side1 => repeat (first | exact (Kd.R_reads' HO_7.out).2.2 | (with_reducible refine Kd.C_alloc ?_ _) | (with_reducible refine Kd.C_drewN ?_ _) | (with_reducible refine Kd.C_drew ?_))); (case side2 => rw [show t331.length = t312.length from (Kd.R_reads' HO_7.out).1.symm]; exact (Kd.R_reads' HO_7.out).2.1); rintro e w' ⟨rfl, ⟨nd, rfl⟩⟩; refine ⟨_, rfl, ?_⟩; have hnb64 := NB287_311.out; have hnc64 := NB311_287.out; have hcz65_0 : w63.cell? ⟨gb287, 0, none⟩ = some (.bool a0_0) := (blk_cell BK287.out 0).trans rfl; have hcz65_1 : w63.cell? ⟨gb287, 1, none⟩ = some (.int .i64 a0_1) := (blk_cell BK287.out 1).trans rfl; have hcz65_2 : w63.cell? ⟨gb287, 2, none⟩ = some (.int .i64 a0_2) := (blk_cell BK287.out 2).trans rfl; have hcz65_3 : w63.cell? ⟨gb287, 3, none⟩ = some (.int .i64 a0_3) := (blk_cell BK287.out 3).trans rfl; have hcz65_4 : w63.cell? ⟨gb287, 4, none⟩ = some (.int .i64 a0_4) := (blk_cell BK287.out 4).trans rfl; have hcz65_5 : w63.cell? ⟨gb287, 5, none⟩ = some (.string a0_5) := (blk_cell BK287.out 5).trans rfl; have hcz65_6 : w63.cell? ⟨gb287, 6, none⟩ = some (.slice A0_6 l0_6.length c0_6) := (blk_cell BK287.out 6).trans rfl; have hfz65_0 := blk_frozen BK287.out 0; have hfz65_1 := blk_frozen BK287.out 1; have hfz65_2 := blk_frozen BK287.out 2; have hfz65_3 := blk_frozen BK287.out 3; have hfz65_4 := blk_frozen BK287.out 4; have hfz65_5 := blk_frozen BK287.out 5; have hfz65_6 := blk_frozen BK287.out 6) | ((with_reducible refine gate_callee (f := 45) rfl ?_); refine goesL_ (some 75) rfl rfl Try.func45 (by kernel_rfl) rfl #[.agg #[.bool a0_0, .int .i64 a0_1, .int .i64 a0_2, .int .i64 a0_3, .int .i64 a0_4, .string a0_5, .slice A0_6 l0_6.length c0_6]] rfl (by (try simp only [List.map_toArray, List.map_cons, List.map_nil]); first | done | rfl | (simp only [List.length_drop, List.length_take]; rfl)) ?_; (with_reducible refine (laws_toBatch.calls kj36 a0_0 a0_1 a0_2 a0_3 a0_4 a0_5 _ _ l0_6 t333 t334 t335 t336 t337 t338 t339 _ ?side1 ?side2 A59.out).mono ?_); (case side1 => repeat (first | exact (Kd.C_below HR0_6.out (by repeat (first | (with_reducible first | exact HB.out | apply qg12 | apply qh12 | apply qi12 | refine qj12 ?_ GE287.out | refine qj12 ?_ GE311.out) | exact HB.out))) | (with_reducible refine Kd.C_alloc ?_ _) | (with_reducible refine Kd.C_drewN ?_ _) | (with_reducible refine Kd.C_drew ?_))); (case side2 => exact HC0_6.out); rintro e w66 ⟨v340, rfl, ho0, hb⟩; refine ⟨_, rfl, ?_⟩; have n0_ := qk12 (Kd.R_below (by (with_reducible repeat (first | apply qd12 | apply qe12 | apply qf12)); exact HO_4.out) hb); have n1_ := qk12 (Kd.R_below (by (with_reducible repeat (first | apply qd12 | apply qe12 | apply qf12)); exact HO_7.out) hb); have n2_ := qk12 (Kd.R_elder' (by (with_reducible repeat (first | apply qd12 | apply qe12 | apply qf12)); exact HO_312006.out) (Kd.R_base ho0) hb); have n3_ := qk12 (Kd.R_lower (Kd.R_new' ho0 (Kd.R_lt (by (with_reducible repeat (first | apply qd12 | apply qe12 | apply qf12)); exact HO_312006.out))) (below_size (by repeat (first | (with_reducible first | exact HB.out | apply qg12 | apply qh12 | apply qi12 | refine qj12 ?_ GE287.out | refine qj12 ?_ GE311.out) | exact HB.out)))); have n4_ := qk12 (blk_below (g := gb287) (o := .cells #[.bool a0_0, .int .i64 a0_1, .int .i64 a0_2, .int .i64 a0_3, .int .i64 a0_4, .string a0_5, .slice A0_6 l0_6.length c0_6] 55 (0, 0)) (by (with_reducible repeat (first | apply qa12 | apply qb12 | apply qc12)); exact BK287.out) hb); have n5_ := qk12 (blk_below (g := gb311) (o := .cells #[.bool t302, .int .i64 t303, .int .i64 t304, .int .i64 t305, .int .i64 t306, .string t307, .slice Ao24 t328.length co24] 60 (0, 0)) (by (with_reducible repeat (first | apply qa12 | apply qb12 | apply qc12)); exact BK311.out) hb); have n6_ := qk12 (below_step (by repeat (first | (with_reducible first | exact HB.out | apply qg12 | apply qh12 | apply qi12 | refine qj12 ?_ GE287.out | refine qj12 ?_ GE311.out) | exact HB.out)) hb); clear HO_4; clear HO_7; clear HO_312006; clear BK287; clear BK311; clear HB; have HO_4 := n0_; have HO_7 := n1_; have HO_312006 := n2_; have HO341 := n3_; have BK287 := n4_; have BK311 := n5_; have HB := n6_; clear n0_ n1_ n2_ n3_ n4_ n5_ n6_; (try clear hb); (try clear hb2); (try clear hk); (try clear hi); (try clear ho0); obtain ⟨Ao67, co67, eo67⟩ := Kd.R_slice HO341.out; subst eo67) | ((with_reducible refine gate_callee (f := 46) rfl ?_); refine goesL_ (some 76) rfl rfl Try.func46 (by kernel_rfl) rfl #[.agg #[.bool t333, .int .i64 t334, .int .i64 t335, .int .i64 t336, .int .i64 t337, .string t338, .slice Ao67 t339.length co67]] rfl (by (try simp only [List.map_toArray, List.map_cons, List.map_nil]); first | done | rfl | (simp only [List.length_drop, List.length_take]; rfl)) ?_; (with_reducible refine (impl_BatchBytes.calls kj36 t333 t334 t335 t336 t337 t338 _ _ t339 t342 t345 _ ?side1 ?side2 A60.out).mono ?_); (case side1 => repeat (first | exact (Kd.R_reads' HO341.out).2.2 | (with_reducible refine Kd.C_alloc ?_ _) | (with_reducible refine Kd.C_drewN ?_ _) | (with_reducible refine Kd.C_drew ?_))); (case side2 => exact (Kd.R_reads' HO341.out).2.1); rintro e w68 ⟨v343, rfl, ho0, hb⟩; refine ⟨_, rfl, ?_⟩; have n0_ := qk12 (Kd.R_elder' (by (with_reducible repeat (first | apply qd12 | apply qe12 | apply qf12)); exact HO_4.out) (Kd.R_base ho0) hb); have n1_ := qk12 (Kd.R_elder' (by (with_reducible repeat (first | apply qd12 | apply qe12 | apply qf12)); exact HO_7.out) (Kd.R_base ho0) hb); have n2_ := qk12 (Kd.R_below (by (with_reducible repeat (first | apply qd12 | apply qe12 | apply qf12)); exact HO_312006.out) hb); have n3_ := qk12 (Kd.R_below (by (with_reducible repeat (first | apply qd12 | apply qe12 | apply qf12)); exact HO341.out) hb); have n4_ := qk12 (Kd.R_lower (Kd.R_new' (Kd.R_new' ho0 (Kd.R_lt (by (with_reducible repeat (first | apply qd12 | apply qe12 | apply qf12)); exact HO_4.out))) (Kd.R_lt (by (with_reducible repeat (first | apply qd12 | apply qe12 | apply qf12)); exact HO_7.out))) (below_size (by repeat (first | (with_reducible first | exact HB.out | apply qg12 | apply qh12 | apply qi12 | refine qj12 ?_ GE287.out | refine qj12 ?_ GE311.out) | exact HB.out)))); have n5_ := qk12 (blk_below (g := gb287) (o := .cells #[.bool a0_0, .int .i64 a0_1, .int .i64 a0_2, .int .i64 a0_3, .int .i64 a0_4, .string a0_5, .slice A0_6 l0_6.length c0_6] 55 (0, 0)) (by (with_reducible repeat (first | apply qa12 | apply qb12 | apply qc12)); exact BK287.out) hb); have n6_ := qk12 (blk_below (g := gb311) (o := .cells #[.bool t302, .int .i64 t303, .int .i64 t304, .int .i64 t305, .int .i64 t306, .string t307, .slice Ao24 t328.length co24] 60 (0, 0)) (by (with_reducible repeat (first | apply qa12 | apply qb12 | apply qc12)); exact BK311.out) hb); have n7_ := qk12 (below_step (by repeat (first | (with_reducible first | exact HB.out | apply qg12 | apply qh12 | apply qi12 | refine qj12 ?_ GE287.out | refine qj12 ?_ GE311.out) | exact HB.out)) hb); clear HO_4; clear HO_7; clear HO_312006; clear HO341; clear BK287; clear BK311; clear HB; have HO_4 := n0_; have HO_7 := n1_; have HO_312006 := n2_; have HO341 := n3_; have HO344 := n4_; have BK287 := n5_; have BK311 := n6_; have HB := n7_; clear n0_ n1_ n2_ n3_ n4_ n5_ n6_ n7_; (try clear hb); (try clear hb2); (try clear hk); (try clear hi); (try clear ho0)))
                      (try simp only [Act.put, List.setIfInBounds_toArray, List.set_cons_zero, List.set_cons_succ])
                      go_cut [87] (fun v87 wc => ∃ (kq : Nat) (x87_60 : Bool), v87 = .bool x87_60 ∧ Aside0 (laws_FnExactBatchBytes.j2 kq t331 t330 x87_60 = some r) ∧ Aside0 (kq ≤ kj36) ∧ Aside0 (Kd.R (Kd.int .u8) 5 wc w.heap.size (fun _ => True) (.slice Ao62 t312.length co62) t331) ∧ Aside0 (Kd.R k137 137 wc w.heap.size (fun _ => True) (.slice Ao24 t328.length co24) t328) ∧ Aside0 (wc.heap[gb287]? = some (.cells #[.bool a0_0, .int .i64 a0_1, .int .i64 a0_2, .int .i64 a0_3, .int .i64 a0_4, .string a0_5, (.slice A0_6 l0_6.length c0_6)] 55 (0, 0))) ∧ Aside0 (wc.heap[gb311]? = some (.cells #[.bool t302, .int .i64 t303, .int .i64 t304, .int .i64 t305, .int .i64 t306, .string t307, (.slice Ao24 t328.length co24)] 60 (0, 0))) ∧ Aside0 (Below w.heap.size w wc))
                      case first =>
                        have H := HC61.out
                        clear HC61
                        replace H := Option.bind_eq_some_iff.mp H
                        obtain ⟨t346, A690, H⟩ := H
                        replace H : (if t346 = true then (laws_FnExactBatchBytes.j2 kj36 t331 t330 (t345 != t301)) else (laws_FnExactBatchBytes.j2 kj36 t331 t330 true)) = some r := H
                        have A69 := qk12 A690
                        clear A690
                        by_cases c70 : t346 = true
                        · subst c70
                          have H1 : (laws_FnExactBatchBytes.j2 kj36 t331 t330 (t345 != t301)) = some r := by rw [if_pos rfl] at H; exact H
                          clear H
                          have H := H1
                          clear H1
                          have H' := qk12 H
                          clear H
                          obtain ⟨Ao71, co71, eo71⟩ := Kd.R_slice HO344.out
                          subst eo71
                          obtain ⟨Ao72, co72, eo72⟩ := Kd.R_slice HO_4.out
                          subst eo72
                          go_wp2_with (first | ((with_reducible refine gate_callee (f := 26) rfl ?_); refine goesL_ (some 81) rfl rfl Try.func26 (by kernel_rfl) rfl #[.slice Ao71 t342.length co71, .slice Ao72 t298.length co72] rfl (by (try simp only [List.map_toArray, List.map_cons, List.map_nil]); first | done | rfl | (simp only [List.length_drop, List.length_take]; rfl)) ?_; (with_reducible refine (laws_eqByteS.calls kj36 _ _ t342 _ _ t298 true _ ?side1 ?side2 ?side3 ?side4 A69.out).mono ?_); (case side1 => repeat (first | exact (Kd.R_reads' HO344.out).2.2 | (with_reducible refine Kd.C_alloc ?_ _) | (with_reducible refine Kd.C_drewN ?_ _) | (with_reducible refine Kd.C_drew ?_))); (case side2 => exact (Kd.R_reads' HO344.out).2.1); (case side3 => repeat (first | exact (Kd.R_reads' HO_4.out).2.2 | (with_reducible refine Kd.C_alloc ?_ _) | (with_reducible refine Kd.C_drewN ?_ _) | (with_reducible refine Kd.C_drew ?_))); (case side4 => exact (Kd.R_reads' HO_4.out).2.1); rintro e w' ⟨rfl, ⟨nd, rfl⟩⟩; refine ⟨_, rfl, ?_⟩))
                          go_meet
                          case rel => exact ⟨_, ((t345 != t301)), (by first | rfl | (simp; done) | (simp [*]; done)), H', ⟨by have := HJ10.out; have := HJ36.out; first | omega | exact Nat.le_refl _⟩, ⟨by (try simp only [hl312006_36]); (with_reducible repeat (first | apply qd12 | apply qe12 | apply qf12)); exact Kd.R_mono HO_7.out (fun _ hk => trivial)⟩, ⟨by (try simp only [hl312006_36]); (with_reducible repeat (first | apply qd12 | apply qe12 | apply qf12)); exact Kd.R_mono HO_312006.out (fun _ hk => trivial)⟩, ⟨by (try simp only [hl312006_36]); (with_reducible repeat (first | apply qa12 | apply qb12 | apply qc12)); exact BK287.out⟩, ⟨by (try simp only [hl312006_36]); (with_reducible repeat (first | apply qa12 | apply qb12 | apply qc12)); exact BK311.out⟩, ⟨by repeat (first | (with_reducible first | exact HB.out | apply qg12 | apply qh12 | apply qi12 | refine qj12 ?_ GE287.out | refine qj12 ?_ GE311.out) | exact HB.out)⟩⟩
                        · replace c70 := Bool.eq_false_iff.mpr c70
                          subst c70
                          have H1 : (laws_FnExactBatchBytes.j2 kj36 t331 t330 true) = some r := by rw [if_neg (show ¬ (false = true) by decide)] at H; exact H
                          clear H
                          have H := H1
                          clear H1
                          have H' := qk12 H
                          clear H
                          obtain ⟨Ao73, co73, eo73⟩ := Kd.R_slice HO344.out
                          subst eo73
                          obtain ⟨Ao74, co74, eo74⟩ := Kd.R_slice HO_4.out
                          subst eo74
                          go_wp2_with (first | ((with_reducible refine gate_callee (f := 26) rfl ?_); refine goesL_ (some 81) rfl rfl Try.func26 (by kernel_rfl) rfl #[.slice Ao73 t342.length co73, .slice Ao74 t298.length co74] rfl (by (try simp only [List.map_toArray, List.map_cons, List.map_nil]); first | done | rfl | (simp only [List.length_drop, List.length_take]; rfl)) ?_; (with_reducible refine (laws_eqByteS.calls kj36 _ _ t342 _ _ t298 false _ ?side1 ?side2 ?side3 ?side4 A69.out).mono ?_); (case side1 => repeat (first | exact (Kd.R_reads' HO344.out).2.2 | (with_reducible refine Kd.C_alloc ?_ _) | (with_reducible refine Kd.C_drewN ?_ _) | (with_reducible refine Kd.C_drew ?_))); (case side2 => exact (Kd.R_reads' HO344.out).2.1); (case side3 => repeat (first | exact (Kd.R_reads' HO_4.out).2.2 | (with_reducible refine Kd.C_alloc ?_ _) | (with_reducible refine Kd.C_drewN ?_ _) | (with_reducible refine Kd.C_drew ?_))); (case side4 => exact (Kd.R_reads' HO_4.out).2.1); rintro e w' ⟨rfl, ⟨nd, rfl⟩⟩; refine ⟨_, rfl, ?_⟩))
                          go_meet
                          case rel => exact ⟨_, (true), (by first | rfl | (simp; done) | (simp [*]; done)), H', ⟨by have := HJ10.out; have := HJ36.out; first | omega | exact Nat.le_refl _⟩, ⟨by (try simp only [hl312006_36]); (with_reducible repeat (first | apply qd12 | apply qe12 | apply qf12)); exact Kd.R_mono HO_7.out (fun _ hk => trivial)⟩, ⟨by (try simp only [hl312006_36]); (with_reducible repeat (first | apply qd12 | apply qe12 | apply qf12)); exact Kd.R_mono HO_312006.out (fun _ hk => trivial)⟩, ⟨by (try simp only [hl312006_36]); (with_reducible repeat (first | apply qa12 | apply qb12 | apply qc12)); exact BK287.out⟩, ⟨by (try simp only [hl312006_36]); (with_reducible repeat (first | apply qa12 | apply qb12 | apply qc12)); exact BK311.out⟩, ⟨by repeat (first | (with_reducible first | exact HB.out | apply qg12 | apply qh12 | apply qi12 | refine qj12 ?_ GE287.out | refine qj12 ?_ GE311.out) | exact HB.out)⟩⟩
                      case rest =>
                        clear HC61
                        try clear c1
                        try clear c2
                        try clear p2
                        try clear c3
                        try clear c3b0
                        try clear c4
                        try clear c5
                        try clear c6
                        try clear c7
                        try clear c11
                        try clear c22
                        try clear c26
                        try clear c27
                        try clear c31
                        try clear c32
                        try clear c35
                        try clear c42
                        try clear c43
                        try clear c44
                        try clear c45
                        try clear c45b0
                        try clear c46
                        try clear c47
                        try clear c48
                        try clear c52
                        try clear c55
                        try clear c55b0
                        try clear c58
                        try clear c58b0
                        try clear c58b1
                        try clear c64
                        try clear c70
                        try clear hcz13_0
                        try clear hcz13_1
                        try clear hcz13_2
                        try clear hcz13_3
                        try clear hcz13_4
                        try clear hcz13_5
                        try clear hcz13_6
                        try clear hcz15_0
                        try clear hcz15_1
                        try clear hcz15_2
                        try clear hcz15_3
                        try clear hcz15_4
                        try clear hcz15_5
                        try clear hcz15_6
                        try clear hcz19_0
                        try clear hcz19_1
                        try clear hcz19_2
                        try clear hcz19_3
                        try clear hcz19_4
                        try clear hcz19_5
                        try clear hcz19_6
                        try clear hcz23_0
                        try clear hcz23_1
                        try clear hcz23_2
                        try clear hcz23_3
                        try clear hcz23_4
                        try clear hcz23_5
                        try clear hcz23_6
                        try clear hcz43_0
                        try clear hcz43_1
                        try clear hcz43_2
                        try clear hcz43_3
                        try clear hcz43_4
                        try clear hcz43_5
                        try clear hcz43_6
                        try clear hcz5_0
                        try clear hcz5_1
                        try clear hcz5_2
                        try clear hcz5_3
                        try clear hcz5_4
                        try clear hcz5_5
                        try clear hcz5_6
                        try clear hcz65_0
                        try clear hcz65_1
                        try clear hcz65_2
                        try clear hcz65_3
                        try clear hcz65_4
                        try clear hcz65_5
                        try clear hcz65_6
                        try clear hfz13_0
                        try clear hfz13_1
                        try clear hfz13_2
                        try clear hfz13_3
                        try clear hfz13_4
                        try clear hfz13_5
                        try clear hfz13_6
                        try clear hfz15_0
                        try clear hfz15_1
                        try clear hfz15_2
                        try clear hfz15_3
                        try clear hfz15_4
                        try clear hfz15_5
                        try clear hfz15_6
                        try clear hfz19_0
                        try clear hfz19_1
                        try clear hfz19_2
                        try clear hfz19_3
                        try clear hfz19_4
                        try clear hfz19_5
                        try clear hfz19_6
                        try clear hfz23_0
                        try clear hfz23_1
                        try clear hfz23_2
                        try clear hfz23_3
                        try clear hfz23_4
                        try clear hfz23_5
                        try clear hfz23_6
                        try clear hfz43_0
                        try clear hfz43_1
                        try clear hfz43_2
                        try clear hfz43_3
                        try clear hfz43_4
                        try clear hfz43_5
                        try clear hfz43_6
                        try clear hfz5_0
                        try clear hfz5_1
                        try clear hfz5_2
                        try clear hfz5_3
                        try clear hfz5_4
                        try clear hfz5_5
                        try clear hfz5_6
                        try clear hfz65_0
                        try clear hfz65_1
                        try clear hfz65_2
                        try clear hfz65_3
                        try clear hfz65_4
                        try clear hfz65_5
                        try clear hfz65_6
                        try clear p2
                        obtain ⟨kq, x87_60, rfl, HA, HJ60, HO_7, HO_312006, BK287, BK311, HB⟩ := hcut
                        have hl7_60 := (Kd.R_reads' HO_7.out).1
                        rw [hl7_60] at HO_7
                        (try simp only [hl7_60])
                        (try simp only [hl7_60] at BK287)
                        (try simp only [hl7_60] at BK311)
                        (try simp only [hl7_60] at HO_312006)
                        cases kq with
                        | zero => exact absurd HA.out (by simp [laws_FnExactBatchBytes.j2])
                        | succ kj60 =>
                          have H := HA.out
                          clear HA
                          simp only [laws_FnExactBatchBytes.j2] at H
                          by_cases c75 : x87_60 = true
                          · subst c75
                            have H1 : (some false) = some r := by rw [if_pos rfl] at H; exact H
                            clear H
                            have H := H1
                            clear H1
                            obtain rfl := Option.some.inj H
                            go_wp2
                            go_ret
                            exact ⟨by first | rfl | (simp [errW_none, errW_some] <;> rfl) | (simp [*, errW_none, errW_some] <;> rfl), by repeat (first | (with_reducible first | exact HB.out | apply qg12 | apply qh12 | apply qi12 | refine qj12 ?_ GE287.out | refine qj12 ?_ GE311.out) | exact HB.out)⟩
                          · replace c75 := Bool.eq_false_iff.mpr c75
                            subst c75
                            have H1 : ((laws_heldByteS.f kj60 t331 1).bind fun t347 => (if t347 < 0 then (some false) else (if t347 = t330 then (some true) else (some false)))) = some r := by rw [if_neg (show ¬ (false = true) by decide)] at H; exact H
                            clear H
                            have H := H1
                            clear H1
                            replace H := Option.bind_eq_some_iff.mp H
                            obtain ⟨t347, A760, H⟩ := H
                            replace H : (if t347 < 0 then (some false) else (if t347 = t330 then (some true) else (some false))) = some r := H
                            have A76 := qk12 A760
                            clear A760
                            by_cases c77 : t347 < 0
                            · rw [if_pos c77] at H
                              have c77b0 : decide (t347 < 0) = true := decide_eq_true c77
                              clear c77
                              obtain rfl := Option.some.inj H
                              go_wp2_with (first | ((with_reducible refine gate_callee (f := 32) rfl ?_); refine goesL_ (some 90) rfl rfl Try.func32 (by kernel_rfl) rfl #[.slice Ao62 t331.length co62, .int .i64 1] rfl (by (try simp only [List.map_toArray, List.map_cons, List.map_nil]); first | done | rfl | (simp only [List.length_drop, List.length_take]; rfl)) ?_; (with_reducible refine (laws_heldByteS.calls kj60 _ _ t331 1 t347 _ ?side1 ?side2 A76.out).mono ?_); (case side1 => repeat (first | exact (Kd.R_reads' HO_7.out).2.2 | (with_reducible refine Kd.C_alloc ?_ _) | (with_reducible refine Kd.C_drewN ?_ _) | (with_reducible refine Kd.C_drew ?_))); (case side2 => exact (Kd.R_reads' HO_7.out).2.1); rintro e w' ⟨rfl, ⟨nd, rfl⟩⟩; refine ⟨_, rfl, ?_⟩))
                              go_ret
                              exact ⟨by first | rfl | (simp [errW_none, errW_some] <;> rfl) | (simp [*, errW_none, errW_some] <;> rfl), by repeat (first | (with_reducible first | exact HB.out | apply qg12 | apply qh12 | apply qi12 | refine qj12 ?_ GE287.out | refine qj12 ?_ GE311.out) | exact HB.out)⟩
                            · rw [if_neg c77] at H
                              have c77b0 : decide (t347 < 0) = false := decide_eq_false c77
                              clear c77
                              by_cases c78 : t347 = t330
                              · rw [if_pos c78] at H
                                have c78b0 : (t347 == t330) = true := beq_iff_eq.mpr c78
                                have c78b1 : (t347 != t330) = false := bne_eq_false_iff_eq.mpr c78
                                clear c78
                                obtain rfl := Option.some.inj H
                                go_wp2_with (first | ((with_reducible refine gate_callee (f := 32) rfl ?_); refine goesL_ (some 90) rfl rfl Try.func32 (by kernel_rfl) rfl #[.slice Ao62 t331.length co62, .int .i64 1] rfl (by (try simp only [List.map_toArray, List.map_cons, List.map_nil]); first | done | rfl | (simp only [List.length_drop, List.length_take]; rfl)) ?_; (with_reducible refine (laws_heldByteS.calls kj60 _ _ t331 1 t347 _ ?side1 ?side2 A76.out).mono ?_); (case side1 => repeat (first | exact (Kd.R_reads' HO_7.out).2.2 | (with_reducible refine Kd.C_alloc ?_ _) | (with_reducible refine Kd.C_drewN ?_ _) | (with_reducible refine Kd.C_drew ?_))); (case side2 => exact (Kd.R_reads' HO_7.out).2.1); rintro e w' ⟨rfl, ⟨nd, rfl⟩⟩; refine ⟨_, rfl, ?_⟩))
                                go_ret
                                exact ⟨by first | rfl | (simp [errW_none, errW_some] <;> rfl) | (simp [*, errW_none, errW_some] <;> rfl), by repeat (first | (with_reducible first | exact HB.out | apply qg12 | apply qh12 | apply qi12 | refine qj12 ?_ GE287.out | refine qj12 ?_ GE311.out) | exact HB.out)⟩
                              · rw [if_neg c78] at H
                                have c78b0 : (t347 == t330) = false := beq_eq_false_iff_ne.mpr c78
                                have c78b1 : (t347 != t330) = true := bne_iff_ne.mpr c78
                                obtain rfl := Option.some.inj H
                                go_wp2_with (first | ((with_reducible refine gate_callee (f := 32) rfl ?_); refine goesL_ (some 90) rfl rfl Try.func32 (by kernel_rfl) rfl #[.slice Ao62 t331.length co62, .int .i64 1] rfl (by (try simp only [List.map_toArray, List.map_cons, List.map_nil]); first | done | rfl | (simp only [List.length_drop, List.length_take]; rfl)) ?_; (with_reducible refine (laws_heldByteS.calls kj60 _ _ t331 1 t347 _ ?side1 ?side2 A76.out).mono ?_); (case side1 => repeat (first | exact (Kd.R_reads' HO_7.out).2.2 | (with_reducible refine Kd.C_alloc ?_ _) | (with_reducible refine Kd.C_drewN ?_ _) | (with_reducible refine Kd.C_drew ?_))); (case side2 => exact (Kd.R_reads' HO_7.out).2.1); rintro e w' ⟨rfl, ⟨nd, rfl⟩⟩; refine ⟨_, rfl, ?_⟩))
                                go_ret
                                exact ⟨by first | rfl | (simp [errW_none, errW_some] <;> rfl) | (simp [*, errW_none, errW_some] <;> rfl), by repeat (first | (with_reducible first | exact HB.out | apply qg12 | apply qh12 | apply qi12 | refine qj12 ?_ GE287.out | refine qj12 ?_ GE311.out) | exact HB.out)⟩
                    · rw [if_neg c58] at H
                      have c58b0 : (t332 == t330) = false := beq_eq_false_iff_ne.mpr c58
                      have c58b1 : (t332 != t330) = true := bne_iff_ne.mpr c58
                      obtain rfl := Option.some.inj H
                      obtain ⟨Ao79, co79, eo79⟩ := Kd.R_slice HO_7.out
                      subst eo79
                      go_wp2_with (first | ((with_reducible refine gate_callee (f := 31) rfl ?_); refine goesL_ (some 64) rfl rfl Try.func31 (by kernel_rfl) rfl #[.slice Ao79 t312.length co79, .int .i64 1] rfl (by (try simp only [List.map_toArray, List.map_cons, List.map_nil]); first | done | rfl | (simp only [List.length_drop, List.length_take]; rfl)) ?_; (with_reducible refine (laws_markByteS.calls kj36 (fun k_ => some k_ = (.slice Ao79 t312.length co79 : Value).ownBlock) (.slice Ao79 t312.length co79) t312 1 t330 t331 w _ ?side1 ?side2 A53.out).mono ?_); (case side1 => repeat (first | (with_reducible first | exact HB.out | apply qg12 | apply qh12 | apply qi12 | refine qj12 ?_ GE287.out | refine qj12 ?_ GE311.out) | exact HB.out)); (case side2 => exact Kd.R_tight rfl HO_7.out); rintro e w80 ⟨rfl, hy0, hb, hkp⟩; refine ⟨_, rfl, ?_⟩; have n0_ := qk12 (Kd.R_mono (ok' := fun k_ => some k_ ≠ (.slice Ao79 t312.length co79 : Value).ownBlock) (Kd.R_keptB (HO_4.out) hkp (fun k_ hk_ hs_ => (hk_) hs_)) (fun k_ hk_ => hk_.1)); have n1_ := qk12 (Kd.R_reok rfl hy0 (fun k_ e_ => HO_7.out.1 k_ e_)); have n2_ := qk12 (Kd.R_mono (ok' := fun k_ => True) (Kd.R_keptB ((Kd.R_apart' HO_312006.out (Kd.R_typed HO_7.out) (by decide))) hkp (fun k_ hk_ hs_ => (hk_.2) hs_)) (fun k_ hk_ => trivial)); have n3_ := qk12 (blk_kept (by (with_reducible repeat (first | apply qa12 | apply qb12 | apply qc12)); exact BK287.out) hkp (fun hs_ => (fun e_ => (Kd.R_ne HO_7.out BK287.out (by decide)) e_) hs_)); have n4_ := qk12 (blk_kept (by (with_reducible repeat (first | apply qa12 | apply qb12 | apply qc12)); exact BK311.out) hkp (fun hs_ => (fun e_ => (Kd.R_ne HO_7.out BK311.out (by decide)) e_) hs_)); have n5_ := qk12 (hb); clear HO_4; clear HO_7; clear HO_312006; clear BK287; clear BK311; clear HB; have HO_4 := n0_; have HO_7 := n1_; have HO_312006 := n2_; have BK287 := n3_; have BK311 := n4_; have HB := n5_; clear n0_ n1_ n2_ n3_ n4_ n5_; (try clear hb); (try clear hkp); (try clear hy0)) | ((with_reducible refine gate_callee (f := 32) rfl ?_); refine goesL_ (some 67) rfl rfl Try.func32 (by kernel_rfl) rfl #[.slice Ao79 t331.length co79, .int .i64 1] rfl (by (try simp only [List.map_toArray, List.map_cons, List.map_nil]); first | done | (rw [show t331.length = t312.length from (Kd.R_reads' HO_7.out).1.symm] <;> rfl) | rfl | (simp only [List.length_drop, List.length_take]; rfl)) ?_; (with_reducible refine (laws_heldByteS.calls kj36 _ _ t331 1 t332 _ ?side1 ?side2 A54.out).mono ?_); (case side1 => repeat (first | exact (Kd.R_reads' HO_7.out).2.2 | (with_reducible refine Kd.C_alloc ?_ _) | (with_reducible refine Kd.C_drewN ?_ _) | (with_reducible refine Kd.C_drew ?_))); (case side2 => rw [show t331.length = t312.length from (Kd.R_reads' HO_7.out).1.symm]; exact (Kd.R_reads' HO_7.out).2.1); rintro e w' ⟨rfl, ⟨nd, rfl⟩⟩; refine ⟨_, rfl, ?_⟩))
                      go_ret
                      exact ⟨by first | rfl | (simp [errW_none, errW_some] <;> rfl) | (simp [*, errW_none, errW_some] <;> rfl), by repeat (first | (with_reducible first | exact HB.out | apply qg12 | apply qh12 | apply qi12 | refine qj12 ?_ GE287.out | refine qj12 ?_ GE311.out) | exact HB.out)⟩
          · replace c35 := Bool.eq_false_iff.mpr c35
            subst c35
            have H1 : (some false) = some r := by rw [if_neg (show ¬ (false = true) by decide)] at H; exact H
            clear H
            have H := H1
            clear H1
            obtain rfl := Option.some.inj H
            try go_wp2
            have n0_ := qk12 (qf12 HO_4.out)
            have n1_ := qk12 (qf12 HO_7.out)
            have n2_ := qk12 (qf12 HO_312006.out)
            have n3_ := qk12 (qb12 BK287.out)
            have n4_ := qk12 (qb12 BK311.out)
            have n5_ := qk12 (qi12 HB.out)
            clear HO_4
            clear HO_7
            clear HO_312006
            clear BK287
            clear BK311
            clear HB
            have HO_4 := n0_
            have HO_7 := n1_
            have HO_312006 := n2_
            have BK287 := n3_
            have BK311 := n4_
            have HB := n5_
            clear n0_ n1_ n2_ n3_ n4_ n5_
            refine start_ (n := 5) (S := fun w' => w'.cell? ⟨gb311, 0, none⟩ = some (.bool t302) ∧ w'.cell? ⟨gb311, 1, none⟩ = some (.int .i64 t303) ∧ w'.cell? ⟨gb311, 2, none⟩ = some (.int .i64 t304) ∧ w'.cell? ⟨gb311, 3, none⟩ = some (.int .i64 t305) ∧ w'.cell? ⟨gb311, 4, none⟩ = some (.int .i64 t306) ∧ w'.cell? ⟨gb311, 5, none⟩ = some (.string t307) ∧ w'.cell? ⟨gb311, 6, none⟩ = some (.slice Ao24 t308.length co24) ∧ w'.cell? ⟨gb287, 0, none⟩ = some (.bool a0_0) ∧ w'.cell? ⟨gb287, 1, none⟩ = some (.int .i64 a0_1) ∧ w'.cell? ⟨gb287, 2, none⟩ = some (.int .i64 a0_2) ∧ w'.cell? ⟨gb287, 3, none⟩ = some (.int .i64 a0_3) ∧ w'.cell? ⟨gb287, 4, none⟩ = some (.int .i64 a0_4) ∧ w'.cell? ⟨gb287, 5, none⟩ = some (.string a0_5) ∧ w'.cell? ⟨gb287, 6, none⟩ = some (.slice A0_6 l0_6.length c0_6)) (ds := []) #[false, false, false, false, false] (by kernel_rfl) rfl rfl ⟨(blk_cell BK311.out 0).trans rfl, (blk_cell BK311.out 1).trans rfl, (blk_cell BK311.out 2).trans rfl, (blk_cell BK311.out 3).trans rfl, (blk_cell BK311.out 4).trans rfl, (blk_cell BK311.out 5).trans rfl, (blk_cell BK311.out 6).trans rfl, (blk_cell BK287.out 0).trans rfl, (blk_cell BK287.out 1).trans rfl, (blk_cell BK287.out 2).trans rfl, (blk_cell BK287.out 3).trans rfl, (blk_cell BK287.out 4).trans rfl, (blk_cell BK287.out 5).trans rfl, (blk_cell BK287.out 6).trans rfl⟩ (fun hHeld => ?_)
            generalize wc.drew = w81 at HO_4 HO_7 HO_312006 BK287 BK311 HB hHeld ⊢
            refine take_ (i := 0) (N := some 41) (v := ?_) (a' := ?_) #[true, false, false, false, false] rfl rfl (by kernel_rfl) (fun _ _ _ h => h) (Or.inl ⟨by rfl, ?_⟩) hHeld ?_ ?_
            rotate_left
            · rintro w' ⟨s0, s1, s2, s3, s4, s5, s6, s7, s8, s9, s10, s11, s12, s13⟩
              go_simp
              with_reducible rfl
            rotate_left
            · simp only [Act.put, List.setIfInBounds_toArray, List.set_cons_zero, List.set_cons_succ, i64_w, i32_w]
              rfl
            refine take_ (i := 1) (N := some 42) (v := ?_) (a' := ?_) #[true, true, false, false, false] rfl rfl (by kernel_rfl) (fun _ _ _ h => h) (Or.inl ⟨by rfl, ?_⟩) hHeld ?_ ?_
            rotate_left
            · rintro w' ⟨s0, s1, s2, s3, s4, s5, s6, s7, s8, s9, s10, s11, s12, s13⟩
              go_simp
              with_reducible rfl
            rotate_left
            · simp only [Act.put, List.setIfInBounds_toArray, List.set_cons_zero, List.set_cons_succ, i64_w, i32_w]
              rfl
            refine one_ (i := 2) (N := some 43) #[true, true, true, false, false] rfl rfl (by kernel_rfl) (by decide) (fun K hK => ?_)
            refine goes_ Try.func45 (by kernel_rfl) rfl #[.agg #[.bool a0_0, .int .i64 a0_1, .int .i64 a0_2, .int .i64 a0_3, .int .i64 a0_4, .string a0_5, .slice A0_6 l0_6.length c0_6]] (by rfl) rfl rfl (by (try simp only [List.map_toArray, List.map_cons, List.map_nil]); first | done | rfl | (simp only [List.length_drop, List.length_take]; rfl)) ?_
            with_reducible refine (laws_toBatch.calls kj10 a0_0 a0_1 a0_2 a0_3 a0_4 a0_5 _ _ l0_6 t317 t318 t319 t320 t321 t322 t323 _ ?side1 ?side2 A33.out).mono ?_
            (case side1 => repeat (first | exact (Kd.C_below HR0_6.out HB.out) | (with_reducible refine Kd.C_alloc ?_ _) | (with_reducible refine Kd.C_drewN ?_ _) | (with_reducible refine Kd.C_drew ?_)))
            (case side2 => exact HC0_6.out)
            rintro e w82 ⟨v324, rfl, ho0, hb⟩
            refine ⟨_, rfl, ?_⟩
            have n0_ := qk12 (Kd.R_below (by (with_reducible repeat (first | apply qd12 | apply qe12 | apply qf12)); exact HO_4.out) hb)
            have n1_ := qk12 (Kd.R_below (by (with_reducible repeat (first | apply qd12 | apply qe12 | apply qf12)); exact HO_7.out) hb)
            have n2_ := qk12 (Kd.R_elder' (by (with_reducible repeat (first | apply qd12 | apply qe12 | apply qf12)); exact HO_312006.out) (Kd.R_base ho0) hb)
            have n3_ := qk12 (Kd.R_lower (Kd.R_new' ho0 (Kd.R_lt (by (with_reducible repeat (first | apply qd12 | apply qe12 | apply qf12)); exact HO_312006.out))) (below_size (by repeat (first | (with_reducible first | exact HB.out | apply qg12 | apply qh12 | apply qi12 | refine qj12 ?_ GE287.out | refine qj12 ?_ GE311.out) | exact HB.out))))
            have n4_ := qk12 (blk_below (g := gb287) (o := .cells #[.bool a0_0, .int .i64 a0_1, .int .i64 a0_2, .int .i64 a0_3, .int .i64 a0_4, .string a0_5, .slice A0_6 l0_6.length c0_6] 55 (0, 0)) (by (with_reducible repeat (first | apply qa12 | apply qb12 | apply qc12)); exact BK287.out) hb)
            have n5_ := qk12 (blk_below (g := gb311) (o := .cells #[.bool t302, .int .i64 t303, .int .i64 t304, .int .i64 t305, .int .i64 t306, .string t307, .slice Ao24 t308.length co24] 60 (0, 0)) (by (with_reducible repeat (first | apply qa12 | apply qb12 | apply qc12)); exact BK311.out) hb)
            have n6_ := qk12 (below_step (by repeat (first | (with_reducible first | exact HB.out | apply qg12 | apply qh12 | apply qi12 | refine qj12 ?_ GE287.out | refine qj12 ?_ GE311.out) | exact HB.out)) hb)
            clear HO_4
            clear HO_7
            clear HO_312006
            clear BK287
            clear BK311
            clear HB
            have HO_4 := n0_
            have HO_7 := n1_
            have HO_312006 := n2_
            have HO325 := n3_
            have BK287 := n4_
            have BK311 := n5_
            have HB := n6_
            clear n0_ n1_ n2_ n3_ n4_ n5_ n6_
            (try clear hb)
            (try clear hb2)
            (try clear hk)
            (try clear hi)
            (try clear ho0)
            obtain ⟨Ao83, co83, eo83⟩ := Kd.R_slice HO325.out
            (first | subst eo83 | (injection eo83 with f1_ f2_ f3_; have f4_ := f1_.symm; have f5_ := f3_.symm; clear f1_ f2_ f3_; subst f4_; subst f5_))
            refine hK.out _ _ ⟨(blk_cell BK311.out 0).trans rfl, (blk_cell BK311.out 1).trans rfl, (blk_cell BK311.out 2).trans rfl, (blk_cell BK311.out 3).trans rfl, (blk_cell BK311.out 4).trans rfl, (blk_cell BK311.out 5).trans rfl, (blk_cell BK311.out 6).trans rfl, (blk_cell BK287.out 0).trans rfl, (blk_cell BK287.out 1).trans rfl, (blk_cell BK287.out 2).trans rfl, (blk_cell BK287.out 3).trans rfl, (blk_cell BK287.out 4).trans rfl, (blk_cell BK287.out 5).trans rfl, (blk_cell BK287.out 6).trans rfl⟩ (fun hHeld => ?_)
            clear hK K
            refine norm_ (a' := ?_) ?_ ?_
            rotate_left
            · show Act.put _ (some 43) _ = _
              simp only [Act.put, List.setIfInBounds_toArray, List.set_cons_zero, List.set_cons_succ, i64_w, i32_w]
              rfl
            refine one_ (i := 3) (N := some 44) #[true, true, true, true, false] rfl rfl (by kernel_rfl) (by decide) (fun K hK => ?_)
            refine goes_ Try.func47 (by kernel_rfl) rfl #[.agg #[.bool t302, .int .i64 t303, .int .i64 t304, .int .i64 t305, .int .i64 t306, .string t307, .slice Ao24 t308.length co24], .agg #[.bool t317, .int .i64 t318, .int .i64 t319, .int .i64 t320, .int .i64 t321, .string t322, .slice Ao83 t323.length co83]] (by rfl) rfl rfl (by (try simp only [List.map_toArray, List.map_cons, List.map_nil]); first | done | rfl | (simp only [List.length_drop, List.length_take]; rfl)) ?_
            with_reducible refine (laws_eqBatch.calls kj10 t302 t303 t304 t305 t306 t307 _ _ t308 t317 t318 t319 t320 t321 t322 _ _ t323 false _ ?side1 ?side2 ?side3 ?side4 A34.out).mono ?_
            (case side1 => repeat (first | exact (Kd.R_reads' HO_312006.out).2.2 | (with_reducible refine Kd.C_alloc ?_ _) | (with_reducible refine Kd.C_drewN ?_ _) | (with_reducible refine Kd.C_drew ?_)))
            (case side2 => exact (Kd.R_reads' HO_312006.out).2.1)
            (case side3 => repeat (first | exact (Kd.R_reads' HO325.out).2.2 | (with_reducible refine Kd.C_alloc ?_ _) | (with_reducible refine Kd.C_drewN ?_ _) | (with_reducible refine Kd.C_drew ?_)))
            (case side4 => exact (Kd.R_reads' HO325.out).2.1)
            rintro e w84 ⟨rfl, hb⟩
            refine ⟨_, rfl, ?_⟩
            have n0_ := qk12 (Kd.R_below (by (with_reducible repeat (first | apply qd12 | apply qe12 | apply qf12)); exact HO_4.out) hb)
            have n1_ := qk12 (Kd.R_below (by (with_reducible repeat (first | apply qd12 | apply qe12 | apply qf12)); exact HO_7.out) hb)
            have n2_ := qk12 (Kd.R_below (by (with_reducible repeat (first | apply qd12 | apply qe12 | apply qf12)); exact HO_312006.out) hb)
            have n3_ := qk12 (Kd.R_below (by (with_reducible repeat (first | apply qd12 | apply qe12 | apply qf12)); exact HO325.out) hb)
            have n4_ := qk12 (blk_below (g := gb287) (o := .cells #[.bool a0_0, .int .i64 a0_1, .int .i64 a0_2, .int .i64 a0_3, .int .i64 a0_4, .string a0_5, .slice A0_6 l0_6.length c0_6] 55 (0, 0)) (by (with_reducible repeat (first | apply qa12 | apply qb12 | apply qc12)); exact BK287.out) hb)
            have n5_ := qk12 (blk_below (g := gb311) (o := .cells #[.bool t302, .int .i64 t303, .int .i64 t304, .int .i64 t305, .int .i64 t306, .string t307, .slice Ao24 t308.length co24] 60 (0, 0)) (by (with_reducible repeat (first | apply qa12 | apply qb12 | apply qc12)); exact BK311.out) hb)
            have n6_ := qk12 (below_step (by repeat (first | (with_reducible first | exact HB.out | apply qg12 | apply qh12 | apply qi12 | refine qj12 ?_ GE287.out | refine qj12 ?_ GE311.out) | exact HB.out)) hb)
            clear HO_4
            clear HO_7
            clear HO_312006
            clear HO325
            clear BK287
            clear BK311
            clear HB
            have HO_4 := n0_
            have HO_7 := n1_
            have HO_312006 := n2_
            have HO325 := n3_
            have BK287 := n4_
            have BK311 := n5_
            have HB := n6_
            clear n0_ n1_ n2_ n3_ n4_ n5_ n6_
            (try clear hb)
            (try clear hb2)
            (try clear hk)
            (try clear hi)
            refine hK.out _ _ ⟨(blk_cell BK311.out 0).trans rfl, (blk_cell BK311.out 1).trans rfl, (blk_cell BK311.out 2).trans rfl, (blk_cell BK311.out 3).trans rfl, (blk_cell BK311.out 4).trans rfl, (blk_cell BK311.out 5).trans rfl, (blk_cell BK311.out 6).trans rfl, (blk_cell BK287.out 0).trans rfl, (blk_cell BK287.out 1).trans rfl, (blk_cell BK287.out 2).trans rfl, (blk_cell BK287.out 3).trans rfl, (blk_cell BK287.out 4).trans rfl, (blk_cell BK287.out 5).trans rfl, (blk_cell BK287.out 6).trans rfl⟩ (fun hHeld => ?_)
            clear hK K
            refine norm_ (a' := ?_) ?_ ?_
            rotate_left
            · show Act.put _ (some 44) _ = _
              simp only [Act.put, List.setIfInBounds_toArray, List.set_cons_zero, List.set_cons_succ, i64_w, i32_w]
              rfl
            refine pure_ (i := 4) (N := some 45) (v := ?_) (a' := ?_) #[true, true, true, true, true] rfl rfl (by kernel_rfl) (fun _ _ _ h => h) (Or.inl ⟨by rfl, ?_⟩) ?_ ?_
            rotate_left
            · intro w'
              go_simp
              with_reducible rfl
            rotate_left
            · simp only [Act.put, List.setIfInBounds_toArray, List.set_cons_zero, List.set_cons_succ, i64_w, i32_w]
              rfl
            refine done_ (by kernel_rfl) ?_
            try go_wp2
            go_ret
            exact ⟨by first | rfl | (simp [errW_none, errW_some] <;> rfl) | (simp [*, errW_none, errW_some] <;> rfl), by repeat (first | (with_reducible first | exact HB.out | apply qg12 | apply qh12 | apply qi12 | refine qj12 ?_ GE287.out | refine qj12 ?_ GE311.out) | exact HB.out)⟩

end Go.Proofs.Ytgekkfgljjbikaa.PFnExactBatchBytes
