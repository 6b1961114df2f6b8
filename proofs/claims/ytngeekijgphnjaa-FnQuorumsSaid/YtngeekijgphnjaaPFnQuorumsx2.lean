-- laid by this session's program myprint.py over the kit's printer
import Derived.Test.YtngeekijgphnjaaPFnQuorumsx0
import Derived.Test.YtngeekijgphnjaaPFnQuorumsx1
namespace Go.Proofs.Ytngeekijgphnjaa.PFnQuorums
open Go.RowKit Go.Proofs.YtngeekijgphnjaaW.PrintWords Go.Proofs.YtngeekijgphnjaaW.PrintLast Go.Proofs.YtngeekijgphnjaaW.PrintMore
attribute [local go_sem] max2_int min2_int max_two min_two max_three min_three max_four min_four   -- for this text's walks alone
set_option linter.unusedVariables false
set_option linter.unusedSimpArgs false

/-! ### laws_FnQuorums: function 12 -/
mutual
def laws_FnQuorums.j0 : Nat → List Int → List Int → Bool → Option (Bool)
  | 0, _, _, _ => none
  | k + 1, x0, x1, x28 => if x28 = true then (some true) else ((some (([1, 4, 7] : List Int) : List Int)).bind fun y110 => ((laws_at.f x1 0 3).bind fun t113 => (if 0 ≤ t113 then (if t113 < (y110.length : Int) then ((impl_QuorumOf.f (rd y110 t113)).bind fun bt115 => ((impl_FaultsOf.f (rd y110 t113)).bind fun bt117 => (if bt115.2 = 0 then (if bt117.2 = 0 then (if bt115.1 = (wrap64 ((wrap64 (2 * bt117.1)) + 1)) then (if (wrap64 ((wrap64 (2 * bt115.1)) - (rd y110 t113))) < (wrap64 (bt117.1 + 1)) then (laws_FnQuorums.j1 k x0 x1 (rd y110 t113) bt115.1 bt117.1 true) else (laws_FnQuorums.j1 k x0 x1 (rd y110 t113) bt115.1 bt117.1 (decide ((wrap64 ((rd y110 t113) - bt117.1)) < bt115.1)))) else (laws_FnQuorums.j1 k x0 x1 (rd y110 t113) bt115.1 bt117.1 true)) else (laws_FnQuorums.j1 k x0 x1 (rd y110 t113) bt115.1 bt117.1 true)) else (laws_FnQuorums.j1 k x0 x1 (rd y110 t113) bt115.1 bt117.1 true)))) else (none)) else (none))))
def laws_FnQuorums.j1 : Nat → List Int → List Int → Int → Int → Int → Bool → Option (Bool)
  | 0, _, _, _, _, _, _ => none
  | k + 1, x0, x1, x5, x6, x8, x72 => if x72 = true then (some false) else (laws_FnQuorums.l0 k x0 x1 x5 x6 x8 (([] : List Int)) (([] : List Int)) 0)
def laws_FnQuorums.l0 : Nat → List Int → List Int → Int → Int → Int → List Int → List Int → Int → Option (Bool)
  | 0, _, _, _, _, _, _, _, _ => none
  | k + 1, x0, x1, x5, x6, x8, x10, x11, x12 => if (x10.length : Int) < x6 then (laws_FnQuorums.j3 k x0 x1 x5 x6 x8 x10 x11 x12 (decide (x12 < 200))) else (laws_FnQuorums.j3 k x0 x1 x5 x6 x8 x10 x11 x12 false)
def laws_FnQuorums.j3 : Nat → List Int → List Int → Int → Int → Int → List Int → List Int → Int → Bool → Option (Bool)
  | 0, _, _, _, _, _, _, _, _, _ => none
  | k + 1, x0, x1, x5, x6, x8, x10, x11, x12, x82 => if x82 = true then ((laws_at.f x0 x12 x5).bind fun t125 => ((laws_hasInt.f k x10 t125).bind fun t126 => (if t126 = true then (laws_FnQuorums.l0 k x0 x1 x5 x6 x8 x10 x11 (wrap64 (x12 + 1))) else (if x10.length < 17592186044416 then (laws_FnQuorums.l0 k x0 x1 x5 x6 x8 (x10 ++ [t125]) x11 (wrap64 (x12 + 1))) else (none))))) else (laws_FnQuorums.l1 k x0 x1 x5 x6 x8 x10 x11 0)
def laws_FnQuorums.l1 : Nat → List Int → List Int → Int → Int → Int → List Int → List Int → Int → Option (Bool)
  | 0, _, _, _, _, _, _, _, _ => none
  | k + 1, x0, x1, x5, x6, x8, x10, x11, x14 => if (x11.length : Int) < x6 then (laws_FnQuorums.j5 k x0 x1 x5 x6 x8 x10 x11 x14 (decide (x14 < 200))) else (laws_FnQuorums.j5 k x0 x1 x5 x6 x8 x10 x11 x14 false)
def laws_FnQuorums.j5 : Nat → List Int → List Int → Int → Int → Int → List Int → List Int → Int → Bool → Option (Bool)
  | 0, _, _, _, _, _, _, _, _, _ => none
  | k + 1, x0, x1, x5, x6, x8, x10, x11, x14, x104 => if x104 = true then ((laws_at.f x1 x14 x5).bind fun t130 => ((laws_hasInt.f k x11 t130).bind fun t131 => (if t131 = true then (laws_FnQuorums.l1 k x0 x1 x5 x6 x8 x10 x11 (wrap64 (x14 + 1))) else (if x11.length < 17592186044416 then (laws_FnQuorums.l1 k x0 x1 x5 x6 x8 x10 (x11 ++ [t130]) (wrap64 (x14 + 1))) else (none))))) else (if (x10.length : Int) < x6 then (laws_FnQuorums.j6 k x0 x5 x6 x8 x10 x11 true) else (laws_FnQuorums.j6 k x0 x5 x6 x8 x10 x11 (decide ((x11.length : Int) < x6))))
def laws_FnQuorums.j6 : Nat → List Int → Int → Int → Int → List Int → List Int → Bool → Option (Bool)
  | 0, _, _, _, _, _, _, _ => none
  | k + 1, x0, x5, x6, x8, x10, x11, x128 => if x128 = true then (some true) else (laws_FnQuorums.l2 k x0 x5 x6 x8 x10 x11 0 0)
def laws_FnQuorums.l2 : Nat → List Int → Int → Int → Int → List Int → List Int → Int → Int → Option (Bool)
  | 0, _, _, _, _, _, _, _, _ => none
  | k + 1, x0, x5, x6, x8, x10, x11, x16, x17 => if x17 < x6 then (if 0 ≤ x17 then (if x17 < (x10.length : Int) then ((laws_hasInt.f k x11 (rd x10 x17)).bind fun t136 => (if t136 = true then (laws_FnQuorums.l2 k x0 x5 x6 x8 x10 x11 (wrap64 (x16 + 1)) (wrap64 (x17 + 1))) else (laws_FnQuorums.l2 k x0 x5 x6 x8 x10 x11 x16 (wrap64 (x17 + 1))))) else (none)) else (none)) else ((laws_at.f x0 0 21).bind fun t137 => ((impl_PrimaryOf.f t137 x5).bind fun bt138 => (if x16 ≥ (wrap64 (x8 + 1)) then (if bt138.2 = 0 then (if x5 = 0 then (none) else (some (bt138.1 == (Int.tmod t137 x5)))) else (some false)) else (some false))))
end
def laws_FnQuorums.f (k : Nat) (l0 : List Int) (l1 : List Int) : Option (Bool) := if (l0.length : Int) > 1048576 then (laws_FnQuorums.j0 k l0 l1 true) else (laws_FnQuorums.j0 k l0 l1 (decide ((l1.length : Int) > 1048576)))
theorem laws_FnQuorums.mono_l : ∀ k, (∀ y0 y1 y2, LeO (laws_FnQuorums.j0 k y0 y1 y2) (laws_FnQuorums.j0 (k + 1) y0 y1 y2)) ∧ (∀ y0 y1 y2 y3 y4 y5, LeO (laws_FnQuorums.j1 k y0 y1 y2 y3 y4 y5) (laws_FnQuorums.j1 (k + 1) y0 y1 y2 y3 y4 y5)) ∧ (∀ y0 y1 y2 y3 y4 y5 y6 y7, LeO (laws_FnQuorums.l0 k y0 y1 y2 y3 y4 y5 y6 y7) (laws_FnQuorums.l0 (k + 1) y0 y1 y2 y3 y4 y5 y6 y7)) ∧ (∀ y0 y1 y2 y3 y4 y5 y6 y7 y8, LeO (laws_FnQuorums.j3 k y0 y1 y2 y3 y4 y5 y6 y7 y8) (laws_FnQuorums.j3 (k + 1) y0 y1 y2 y3 y4 y5 y6 y7 y8)) ∧ (∀ y0 y1 y2 y3 y4 y5 y6 y7, LeO (laws_FnQuorums.l1 k y0 y1 y2 y3 y4 y5 y6 y7) (laws_FnQuorums.l1 (k + 1) y0 y1 y2 y3 y4 y5 y6 y7)) ∧ (∀ y0 y1 y2 y3 y4 y5 y6 y7 y8, LeO (laws_FnQuorums.j5 k y0 y1 y2 y3 y4 y5 y6 y7 y8) (laws_FnQuorums.j5 (k + 1) y0 y1 y2 y3 y4 y5 y6 y7 y8)) ∧ (∀ y0 y1 y2 y3 y4 y5 y6, LeO (laws_FnQuorums.j6 k y0 y1 y2 y3 y4 y5 y6) (laws_FnQuorums.j6 (k + 1) y0 y1 y2 y3 y4 y5 y6)) ∧ (∀ y0 y1 y2 y3 y4 y5 y6 y7, LeO (laws_FnQuorums.l2 k y0 y1 y2 y3 y4 y5 y6 y7) (laws_FnQuorums.l2 (k + 1) y0 y1 y2 y3 y4 y5 y6 y7))
  | 0 => ⟨fun _ _ _ r h => by simp [laws_FnQuorums.j0] at h, fun _ _ _ _ _ _ r h => by simp [laws_FnQuorums.j1] at h, fun _ _ _ _ _ _ _ _ r h => by simp [laws_FnQuorums.l0] at h, fun _ _ _ _ _ _ _ _ _ r h => by simp [laws_FnQuorums.j3] at h, fun _ _ _ _ _ _ _ _ r h => by simp [laws_FnQuorums.l1] at h, fun _ _ _ _ _ _ _ _ _ r h => by simp [laws_FnQuorums.j5] at h, fun _ _ _ _ _ _ _ r h => by simp [laws_FnQuorums.j6] at h, fun _ _ _ _ _ _ _ _ r h => by simp [laws_FnQuorums.l2] at h⟩
  | k + 1 => by
    obtain ⟨ih0, ih1, ih2, ih3, ih4, ih5, ih6, ih7⟩ := laws_FnQuorums.mono_l k
    refine ⟨?_, ?_, ?_, ?_, ?_, ?_, ?_, ?_⟩
    · intro y0 y1 y2
      unfold laws_FnQuorums.j0
      repeat' first
      | (with_reducible exact ih0 _ _ _)
      | (with_reducible exact ih1 _ _ _ _ _ _)
      | (with_reducible exact ih2 _ _ _ _ _ _ _ _)
      | (with_reducible exact ih3 _ _ _ _ _ _ _ _ _)
      | (with_reducible exact ih4 _ _ _ _ _ _ _ _)
      | (with_reducible exact ih5 _ _ _ _ _ _ _ _ _)
      | (with_reducible exact ih6 _ _ _ _ _ _ _)
      | (with_reducible exact ih7 _ _ _ _ _ _ _ _)
      | (with_reducible exact laws_hasInt.mono _ _ _)
      | (with_reducible exact LeO.refl _)
      | (with_reducible exact LeO.none _)
      | (with_reducible refine LeO.ite ?_ ?_)
      | (with_reducible refine LeO.bind ?_ (fun _ => ?_))
      | exact ih0 _ _ _
      | exact ih1 _ _ _ _ _ _
      | exact ih2 _ _ _ _ _ _ _ _
      | exact ih3 _ _ _ _ _ _ _ _ _
      | exact ih4 _ _ _ _ _ _ _ _
      | exact ih5 _ _ _ _ _ _ _ _ _
      | exact ih6 _ _ _ _ _ _ _
      | exact ih7 _ _ _ _ _ _ _ _
      | exact laws_hasInt.mono _ _ _
      | exact LeO.none _
      | refine LeO.ite ?_ ?_
      | refine LeO.bind ?_ (fun _ => ?_)
    · intro y0 y1 y2 y3 y4 y5
      unfold laws_FnQuorums.j1
      repeat' first
      | (with_reducible exact ih0 _ _ _)
      | (with_reducible exact ih1 _ _ _ _ _ _)
      | (with_reducible exact ih2 _ _ _ _ _ _ _ _)
      | (with_reducible exact ih3 _ _ _ _ _ _ _ _ _)
      | (with_reducible exact ih4 _ _ _ _ _ _ _ _)
      | (with_reducible exact ih5 _ _ _ _ _ _ _ _ _)
      | (with_reducible exact ih6 _ _ _ _ _ _ _)
      | (with_reducible exact ih7 _ _ _ _ _ _ _ _)
      | (with_reducible exact laws_hasInt.mono _ _ _)
      | (with_reducible exact LeO.refl _)
      | (with_reducible exact LeO.none _)
      | (with_reducible refine LeO.ite ?_ ?_)
      | (with_reducible refine LeO.bind ?_ (fun _ => ?_))
      | exact ih0 _ _ _
      | exact ih1 _ _ _ _ _ _
      | exact ih2 _ _ _ _ _ _ _ _
      | exact ih3 _ _ _ _ _ _ _ _ _
      | exact ih4 _ _ _ _ _ _ _ _
      | exact ih5 _ _ _ _ _ _ _ _ _
      | exact ih6 _ _ _ _ _ _ _
      | exact ih7 _ _ _ _ _ _ _ _
      | exact laws_hasInt.mono _ _ _
      | exact LeO.none _
      | refine LeO.ite ?_ ?_
      | refine LeO.bind ?_ (fun _ => ?_)
    · intro y0 y1 y2 y3 y4 y5 y6 y7
      unfold laws_FnQuorums.l0
      repeat' first
      | (with_reducible exact ih0 _ _ _)
      | (with_reducible exact ih1 _ _ _ _ _ _)
      | (with_reducible exact ih2 _ _ _ _ _ _ _ _)
      | (with_reducible exact ih3 _ _ _ _ _ _ _ _ _)
      | (with_reducible exact ih4 _ _ _ _ _ _ _ _)
      | (with_reducible exact ih5 _ _ _ _ _ _ _ _ _)
      | (with_reducible exact ih6 _ _ _ _ _ _ _)
      | (with_reducible exact ih7 _ _ _ _ _ _ _ _)
      | (with_reducible exact laws_hasInt.mono _ _ _)
      | (with_reducible exact LeO.refl _)
      | (with_reducible exact LeO.none _)
      | (with_reducible refine LeO.ite ?_ ?_)
      | (with_reducible refine LeO.bind ?_ (fun _ => ?_))
      | exact ih0 _ _ _
      | exact ih1 _ _ _ _ _ _
      | exact ih2 _ _ _ _ _ _ _ _
      | exact ih3 _ _ _ _ _ _ _ _ _
      | exact ih4 _ _ _ _ _ _ _ _
      | exact ih5 _ _ _ _ _ _ _ _ _
      | exact ih6 _ _ _ _ _ _ _
      | exact ih7 _ _ _ _ _ _ _ _
      | exact laws_hasInt.mono _ _ _
      | exact LeO.none _
      | refine LeO.ite ?_ ?_
      | refine LeO.bind ?_ (fun _ => ?_)
    · intro y0 y1 y2 y3 y4 y5 y6 y7 y8
      unfold laws_FnQuorums.j3
      repeat' first
      | (with_reducible exact ih0 _ _ _)
      | (with_reducible exact ih1 _ _ _ _ _ _)
      | (with_reducible exact ih2 _ _ _ _ _ _ _ _)
      | (with_reducible exact ih3 _ _ _ _ _ _ _ _ _)
      | (with_reducible exact ih4 _ _ _ _ _ _ _ _)
      | (with_reducible exact ih5 _ _ _ _ _ _ _ _ _)
      | (with_reducible exact ih6 _ _ _ _ _ _ _)
      | (with_reducible exact ih7 _ _ _ _ _ _ _ _)
      | (with_reducible exact laws_hasInt.mono _ _ _)
      | (with_reducible exact LeO.refl _)
      | (with_reducible exact LeO.none _)
      | (with_reducible refine LeO.ite ?_ ?_)
      | (with_reducible refine LeO.bind ?_ (fun _ => ?_))
      | exact ih0 _ _ _
      | exact ih1 _ _ _ _ _ _
      | exact ih2 _ _ _ _ _ _ _ _
      | exact ih3 _ _ _ _ _ _ _ _ _
      | exact ih4 _ _ _ _ _ _ _ _
      | exact ih5 _ _ _ _ _ _ _ _ _
      | exact ih6 _ _ _ _ _ _ _
      | exact ih7 _ _ _ _ _ _ _ _
      | exact laws_hasInt.mono _ _ _
      | exact LeO.none _
      | refine LeO.ite ?_ ?_
      | refine LeO.bind ?_ (fun _ => ?_)
    · intro y0 y1 y2 y3 y4 y5 y6 y7
      unfold laws_FnQuorums.l1
      repeat' first
      | (with_reducible exact ih0 _ _ _)
      | (with_reducible exact ih1 _ _ _ _ _ _)
      | (with_reducible exact ih2 _ _ _ _ _ _ _ _)
      | (with_reducible exact ih3 _ _ _ _ _ _ _ _ _)
      | (with_reducible exact ih4 _ _ _ _ _ _ _ _)
      | (with_reducible exact ih5 _ _ _ _ _ _ _ _ _)
      | (with_reducible exact ih6 _ _ _ _ _ _ _)
      | (with_reducible exact ih7 _ _ _ _ _ _ _ _)
      | (with_reducible exact laws_hasInt.mono _ _ _)
      | (with_reducible exact LeO.refl _)
      | (with_reducible exact LeO.none _)
      | (with_reducible refine LeO.ite ?_ ?_)
      | (with_reducible refine LeO.bind ?_ (fun _ => ?_))
      | exact ih0 _ _ _
      | exact ih1 _ _ _ _ _ _
      | exact ih2 _ _ _ _ _ _ _ _
      | exact ih3 _ _ _ _ _ _ _ _ _
      | exact ih4 _ _ _ _ _ _ _ _
      | exact ih5 _ _ _ _ _ _ _ _ _
      | exact ih6 _ _ _ _ _ _ _
      | exact ih7 _ _ _ _ _ _ _ _
      | exact laws_hasInt.mono _ _ _
      | exact LeO.none _
      | refine LeO.ite ?_ ?_
      | refine LeO.bind ?_ (fun _ => ?_)
    · intro y0 y1 y2 y3 y4 y5 y6 y7 y8
      unfold laws_FnQuorums.j5
      repeat' first
      | (with_reducible exact ih0 _ _ _)
      | (with_reducible exact ih1 _ _ _ _ _ _)
      | (with_reducible exact ih2 _ _ _ _ _ _ _ _)
      | (with_reducible exact ih3 _ _ _ _ _ _ _ _ _)
      | (with_reducible exact ih4 _ _ _ _ _ _ _ _)
      | (with_reducible exact ih5 _ _ _ _ _ _ _ _ _)
      | (with_reducible exact ih6 _ _ _ _ _ _ _)
      | (with_reducible exact ih7 _ _ _ _ _ _ _ _)
      | (with_reducible exact laws_hasInt.mono _ _ _)
      | (with_reducible exact LeO.refl _)
      | (with_reducible exact LeO.none _)
      | (with_reducible refine LeO.ite ?_ ?_)
      | (with_reducible refine LeO.bind ?_ (fun _ => ?_))
      | exact ih0 _ _ _
      | exact ih1 _ _ _ _ _ _
      | exact ih2 _ _ _ _ _ _ _ _
      | exact ih3 _ _ _ _ _ _ _ _ _
      | exact ih4 _ _ _ _ _ _ _ _
      | exact ih5 _ _ _ _ _ _ _ _ _
      | exact ih6 _ _ _ _ _ _ _
      | exact ih7 _ _ _ _ _ _ _ _
      | exact laws_hasInt.mono _ _ _
      | exact LeO.none _
      | refine LeO.ite ?_ ?_
      | refine LeO.bind ?_ (fun _ => ?_)
    · intro y0 y1 y2 y3 y4 y5 y6
      unfold laws_FnQuorums.j6
      repeat' first
      | (with_reducible exact ih0 _ _ _)
      | (with_reducible exact ih1 _ _ _ _ _ _)
      | (with_reducible exact ih2 _ _ _ _ _ _ _ _)
      | (with_reducible exact ih3 _ _ _ _ _ _ _ _ _)
      | (with_reducible exact ih4 _ _ _ _ _ _ _ _)
      | (with_reducible exact ih5 _ _ _ _ _ _ _ _ _)
      | (with_reducible exact ih6 _ _ _ _ _ _ _)
      | (with_reducible exact ih7 _ _ _ _ _ _ _ _)
      | (with_reducible exact laws_hasInt.mono _ _ _)
      | (with_reducible exact LeO.refl _)
      | (with_reducible exact LeO.none _)
      | (with_reducible refine LeO.ite ?_ ?_)
      | (with_reducible refine LeO.bind ?_ (fun _ => ?_))
      | exact ih0 _ _ _
      | exact ih1 _ _ _ _ _ _
      | exact ih2 _ _ _ _ _ _ _ _
      | exact ih3 _ _ _ _ _ _ _ _ _
      | exact ih4 _ _ _ _ _ _ _ _
      | exact ih5 _ _ _ _ _ _ _ _ _
      | exact ih6 _ _ _ _ _ _ _
      | exact ih7 _ _ _ _ _ _ _ _
      | exact laws_hasInt.mono _ _ _
      | exact LeO.none _
      | refine LeO.ite ?_ ?_
      | refine LeO.bind ?_ (fun _ => ?_)
    · intro y0 y1 y2 y3 y4 y5 y6 y7
      unfold laws_FnQuorums.l2
      repeat' first
      | (with_reducible exact ih0 _ _ _)
      | (with_reducible exact ih1 _ _ _ _ _ _)
      | (with_reducible exact ih2 _ _ _ _ _ _ _ _)
      | (with_reducible exact ih3 _ _ _ _ _ _ _ _ _)
      | (with_reducible exact ih4 _ _ _ _ _ _ _ _)
      | (with_reducible exact ih5 _ _ _ _ _ _ _ _ _)
      | (with_reducible exact ih6 _ _ _ _ _ _ _)
      | (with_reducible exact ih7 _ _ _ _ _ _ _ _)
      | (with_reducible exact laws_hasInt.mono _ _ _)
      | (with_reducible exact LeO.refl _)
      | (with_reducible exact LeO.none _)
      | (with_reducible refine LeO.ite ?_ ?_)
      | (with_reducible refine LeO.bind ?_ (fun _ => ?_))
      | exact ih0 _ _ _
      | exact ih1 _ _ _ _ _ _
      | exact ih2 _ _ _ _ _ _ _ _
      | exact ih3 _ _ _ _ _ _ _ _ _
      | exact ih4 _ _ _ _ _ _ _ _
      | exact ih5 _ _ _ _ _ _ _ _ _
      | exact ih6 _ _ _ _ _ _ _
      | exact ih7 _ _ _ _ _ _ _ _
      | exact laws_hasInt.mono _ _ _
      | exact LeO.none _
      | refine LeO.ite ?_ ?_
      | refine LeO.bind ?_ (fun _ => ?_)
theorem laws_FnQuorums.mono : ∀ a0 a1 k, LeO (laws_FnQuorums.f k a0 a1) (laws_FnQuorums.f (k + 1) a0 a1) := by
  intro a0 a1 k
  obtain ⟨ih0, ih1, ih2, ih3, ih4, ih5, ih6, ih7⟩ := laws_FnQuorums.mono_l k
  unfold laws_FnQuorums.f
  repeat' first
      | (with_reducible exact ih0 _ _ _)
      | (with_reducible exact ih1 _ _ _ _ _ _)
      | (with_reducible exact ih2 _ _ _ _ _ _ _ _)
      | (with_reducible exact ih3 _ _ _ _ _ _ _ _ _)
      | (with_reducible exact ih4 _ _ _ _ _ _ _ _)
      | (with_reducible exact ih5 _ _ _ _ _ _ _ _ _)
      | (with_reducible exact ih6 _ _ _ _ _ _ _)
      | (with_reducible exact ih7 _ _ _ _ _ _ _ _)
      | (with_reducible exact laws_hasInt.mono _ _ _)
      | (with_reducible exact LeO.refl _)
      | (with_reducible exact LeO.none _)
      | (with_reducible refine LeO.ite ?_ ?_)
      | (with_reducible refine LeO.bind ?_ (fun _ => ?_))
      | exact ih0 _ _ _
      | exact ih1 _ _ _ _ _ _
      | exact ih2 _ _ _ _ _ _ _ _
      | exact ih3 _ _ _ _ _ _ _ _ _
      | exact ih4 _ _ _ _ _ _ _ _
      | exact ih5 _ _ _ _ _ _ _ _ _
      | exact ih6 _ _ _ _ _ _ _
      | exact ih7 _ _ _ _ _ _ _ _
      | exact laws_hasInt.mono _ _ _
      | exact LeO.none _
      | refine LeO.ite ?_ ?_
      | refine LeO.bind ?_ (fun _ => ?_)
set_option maxHeartbeats 8000000 in
set_option maxRecDepth 100000 in
theorem laws_FnQuorums.calls (k : Nat) (A0 : Option Addr) (c0 : Nat) (l0 : List Int) (A1 : Option Addr) (c1 : Nat) (l1 : List Int) (r : Bool) (w : World) (hr0 : Kd.C (Kd.int .u8) w A0 l0.length l0) (hc0 : l0.length ≤ c0) (hr1 : Kd.C (Kd.int .u8) w A1 l1.length l1) (hc1 : l1.length ≤ c1) (h : laws_FnQuorums.f k l0 l1 = some r) :
    Calls Try.prog 12 #[.slice A0 l0.length c0, .slice A1 l1.length c1] w fun e w' => e = .returned (.bool r) ∧ Below w.heap.size w w' := by
  have HR0 := Aside0.mk hr0
  have HC0 := Aside0.mk hc0
  clear hr0 hc0
  have HR1 := Aside0.mk hr1
  have HC1 := Aside0.mk hc1
  clear hr1 hc1
  have HB := Aside0.mk (Below.refl w.heap.size w)
  have H : (if (l0.length : Int) > 1048576 then (laws_FnQuorums.j0 k l0 l1 true) else (laws_FnQuorums.j0 k l0 l1 (decide ((l1.length : Int) > 1048576)))) = some r := h
  clear h
  have HC3 := Aside0.mk H
  clear H
  go_enter Try.func12, Try.ntmps12
  go_upto_region 1 with (fail)
  go_cut [28] (fun v28 wc => ∃ (kq : Nat) (x28_2 : Bool), v28 = .bool x28_2 ∧ Aside0 (laws_FnQuorums.j0 kq l0 l1 x28_2 = some r) ∧ Aside0 (kq ≤ k) ∧ Aside0 (Below w.heap.size w wc))
  case first =>
    have H := HC3.out
    clear HC3
    by_cases c4 : (l0.length : Int) > 1048576
    · rw [if_pos c4] at H
      have c4b0 : decide (1048576 < (l0.length : Int)) = true := decide_eq_true c4
      have c4b1 : decide (1048576 < l0.length) = true := decide_eq_true (by omega)
      clear c4
      (first | rw [c4b0] | (simp only [i64_w, i32_w]; rw [c4b0]) | skip)
      have H' := Aside0.mk H
      clear H
      go_wp2
      go_meet
      case rel => exact ⟨_, (true), (by first | rfl | (simp; done) | (simp [*]; done)), H', ⟨by first | omega | exact Nat.le_refl _⟩, ⟨by repeat (first | (with_reducible first | exact HB.out | apply below_alloc | apply pw_below_drewN | apply below_drew1) | exact HB.out)⟩⟩
    · rw [if_neg c4] at H
      have c4b0 : decide (1048576 < (l0.length : Int)) = false := decide_eq_false c4
      have c4b1 : decide (1048576 < l0.length) = false := decide_eq_false (by omega)
      clear c4
      (first | rw [c4b0] | (simp only [i64_w, i32_w]; rw [c4b0]) | skip)
      have H' := Aside0.mk H
      clear H
      go_wp2
      go_meet
      case rel => exact ⟨_, (decide ((l1.length : Int) > 1048576)), (by first | rfl | (simp; done) | (simp [*]; done)), H', ⟨by first | omega | exact Nat.le_refl _⟩, ⟨by repeat (first | (with_reducible first | exact HB.out | apply below_alloc | apply pw_below_drewN | apply below_drew1) | exact HB.out)⟩⟩
  case rest =>
    clear HC3
    try clear c1
    try clear p2
    try clear c4
    try clear c4b0
    try clear c4b1
    obtain ⟨kq, x28_2, rfl, HA, HJ2, HB⟩ := hcut
    cases kq with
    | zero => exact absurd HA.out (by simp [laws_FnQuorums.j0])
    | succ kj2 =>
      have H := HA.out
      clear HA
      simp only [laws_FnQuorums.j0] at H
      by_cases c5 : x28_2 = true
      · subst c5
        have H1 : (some true) = some r := by rw [if_pos rfl] at H; exact H
        clear H
        have H := H1
        clear H1
        obtain rfl := Option.some.inj H
        go_wp2
        go_ret
        exact ⟨by first | rfl | (simp [errW_none, errW_some] <;> rfl) | (simp [*, errW_none, errW_some] <;> rfl), by repeat (first | (with_reducible first | exact HB.out | apply below_alloc | apply pw_below_drewN | apply below_drew1) | exact HB.out)⟩
      · replace c5 := Bool.eq_false_iff.mpr c5
        subst c5
        have H1 : ((some (([1, 4, 7] : List Int) : List Int)).bind fun y110 => ((laws_at.f l1 0 3).bind fun t113 => (if 0 ≤ t113 then (if t113 < (y110.length : Int) then ((impl_QuorumOf.f (rd y110 t113)).bind fun bt115 => ((impl_FaultsOf.f (rd y110 t113)).bind fun bt117 => (if bt115.2 = 0 then (if bt117.2 = 0 then (if bt115.1 = (wrap64 ((wrap64 (2 * bt117.1)) + 1)) then (if (wrap64 ((wrap64 (2 * bt115.1)) - (rd y110 t113))) < (wrap64 (bt117.1 + 1)) then (laws_FnQuorums.j1 kj2 l0 l1 (rd y110 t113) bt115.1 bt117.1 true) else (laws_FnQuorums.j1 kj2 l0 l1 (rd y110 t113) bt115.1 bt117.1 (decide ((wrap64 ((rd y110 t113) - bt117.1)) < bt115.1)))) else (laws_FnQuorums.j1 kj2 l0 l1 (rd y110 t113) bt115.1 bt117.1 true)) else (laws_FnQuorums.j1 kj2 l0 l1 (rd y110 t113) bt115.1 bt117.1 true)) else (laws_FnQuorums.j1 kj2 l0 l1 (rd y110 t113) bt115.1 bt117.1 true)))) else (none)) else (none)))) = some r := by rw [if_neg (show ¬ (false = true) by decide)] at H; exact H
        clear H
        have H := H1
        clear H1
        obtain ⟨y110, hy110⟩ : ∃ y_ : List Int, y_ = (([1, 4, 7] : List Int)) := ⟨_, rfl⟩
        replace H : ((laws_at.f l1 0 3).bind fun t113 => (if 0 ≤ t113 then (if t113 < (y110.length : Int) then ((impl_QuorumOf.f (rd y110 t113)).bind fun bt115 => ((impl_FaultsOf.f (rd y110 t113)).bind fun bt117 => (if bt115.2 = 0 then (if bt117.2 = 0 then (if bt115.1 = (wrap64 ((wrap64 (2 * bt117.1)) + 1)) then (if (wrap64 ((wrap64 (2 * bt115.1)) - (rd y110 t113))) < (wrap64 (bt117.1 + 1)) then (laws_FnQuorums.j1 kj2 l0 l1 (rd y110 t113) bt115.1 bt117.1 true) else (laws_FnQuorums.j1 kj2 l0 l1 (rd y110 t113) bt115.1 bt117.1 (decide ((wrap64 ((rd y110 t113) - bt117.1)) < bt115.1)))) else (laws_FnQuorums.j1 kj2 l0 l1 (rd y110 t113) bt115.1 bt117.1 true)) else (laws_FnQuorums.j1 kj2 l0 l1 (rd y110 t113) bt115.1 bt117.1 true)) else (laws_FnQuorums.j1 kj2 l0 l1 (rd y110 t113) bt115.1 bt117.1 true)))) else (none)) else (none))) = some r := by first | (rw [hy110]; with_reducible exact H) | (have H2_ := (Option.bind_some _ _).symm.trans H; rw [hy110]; with_reducible exact H2_) | (have H2_ := (Option.bind_some _ _).symm.trans H; with_reducible exact H2_) | with_reducible exact H | (rw [hy110]; exact H) | exact H
        have Ny110 := Aside0.mk hy110
        clear hy110
        replace H := Option.bind_eq_some_iff.mp H
        obtain ⟨t113, A60, H⟩ := H
        replace H : (if 0 ≤ t113 then (if t113 < (y110.length : Int) then ((impl_QuorumOf.f (rd y110 t113)).bind fun bt115 => ((impl_FaultsOf.f (rd y110 t113)).bind fun bt117 => (if bt115.2 = 0 then (if bt117.2 = 0 then (if bt115.1 = (wrap64 ((wrap64 (2 * bt117.1)) + 1)) then (if (wrap64 ((wrap64 (2 * bt115.1)) - (rd y110 t113))) < (wrap64 (bt117.1 + 1)) then (laws_FnQuorums.j1 kj2 l0 l1 (rd y110 t113) bt115.1 bt117.1 true) else (laws_FnQuorums.j1 kj2 l0 l1 (rd y110 t113) bt115.1 bt117.1 (decide ((wrap64 ((rd y110 t113) - bt117.1)) < bt115.1)))) else (laws_FnQuorums.j1 kj2 l0 l1 (rd y110 t113) bt115.1 bt117.1 true)) else (laws_FnQuorums.j1 kj2 l0 l1 (rd y110 t113) bt115.1 bt117.1 true)) else (laws_FnQuorums.j1 kj2 l0 l1 (rd y110 t113) bt115.1 bt117.1 true)))) else (none)) else (none)) = some r := H
        have A6 := Aside0.mk A60
        clear A60
        by_cases c7 : 0 ≤ t113
        · rw [if_pos c7] at H
          have c7b0 : decide (0 ≤ t113) = true := decide_eq_true c7
          clear c7
          by_cases c8 : t113 < (y110.length : Int)
          · rw [if_pos c8] at H
            have c8b0 : decide (t113 < (y110.length : Int)) = true := decide_eq_true c8
            clear c8
            replace H := Option.bind_eq_some_iff.mp H
            obtain ⟨⟨t115, t116⟩, A90, H⟩ := H
            replace H : ((impl_FaultsOf.f (rd y110 t113)).bind fun bt117 => (if t116 = 0 then (if bt117.2 = 0 then (if t115 = (wrap64 ((wrap64 (2 * bt117.1)) + 1)) then (if (wrap64 ((wrap64 (2 * t115)) - (rd y110 t113))) < (wrap64 (bt117.1 + 1)) then (laws_FnQuorums.j1 kj2 l0 l1 (rd y110 t113) t115 bt117.1 true) else (laws_FnQuorums.j1 kj2 l0 l1 (rd y110 t113) t115 bt117.1 (decide ((wrap64 ((rd y110 t113) - bt117.1)) < t115)))) else (laws_FnQuorums.j1 kj2 l0 l1 (rd y110 t113) t115 bt117.1 true)) else (laws_FnQuorums.j1 kj2 l0 l1 (rd y110 t113) t115 bt117.1 true)) else (laws_FnQuorums.j1 kj2 l0 l1 (rd y110 t113) t115 bt117.1 true))) = some r := H
            have A9 := Aside0.mk A90
            clear A90
            replace H := Option.bind_eq_some_iff.mp H
            obtain ⟨⟨t117, t118⟩, A100, H⟩ := H
            replace H : (if t116 = 0 then (if t118 = 0 then (if t115 = (wrap64 ((wrap64 (2 * t117)) + 1)) then (if (wrap64 ((wrap64 (2 * t115)) - (rd y110 t113))) < (wrap64 (t117 + 1)) then (laws_FnQuorums.j1 kj2 l0 l1 (rd y110 t113) t115 t117 true) else (laws_FnQuorums.j1 kj2 l0 l1 (rd y110 t113) t115 t117 (decide ((wrap64 ((rd y110 t113) - t117)) < t115)))) else (laws_FnQuorums.j1 kj2 l0 l1 (rd y110 t113) t115 t117 true)) else (laws_FnQuorums.j1 kj2 l0 l1 (rd y110 t113) t115 t117 true)) else (laws_FnQuorums.j1 kj2 l0 l1 (rd y110 t113) t115 t117 true)) = some r := H
            have A10 := Aside0.mk A100
            clear A100
            have HC11 := Aside0.mk H
            clear H
            go_upto_region 6 with (first | ((with_reducible refine gate_dst (N := 29) rfl ?_); (try (refine gate_guard (by rfl) ?_; dsimp only)); refine Kd.R_lit (Kd.int .i64) _ 3 ?hg (N := 29) ?hd (xs := ([1, 4, 7] : List Int)) (inner := [.int .i64 1, .int .i64 4, .int .i64 7]) (ok := fun _ => True) (okp := fun _ => True) ?hr ?hp (fun _ hk => hk) trivial (Below.refl _ _) (Nat.le_refl _) (by simp) ?_; (case hd => rfl); (case hg => rfl); (case hr => first | (go_simp; done) | (go_simp; rfl)); (case hp => exact (Reps.one (show Kd.M (Kd.int .i64) _ _ _ 1 [.int .i64 1] from rfl) (Reps.one (show Kd.M (Kd.int .i64) _ _ _ 4 [.int .i64 4] from rfl) (Reps.one (show Kd.M (Kd.int .i64) _ _ _ 7 [.int .i64 7] from rfl) (Reps.none _ _))))); intro v111 w12 ho13 hb hg_ hnew_; clear hg_ hnew_; (first | rw [← Ny110.out] at ho13 | (simp only [Int.reduceToNat] at ho13; rw [← Ny110.out] at ho13)); have n0_ := Aside0.mk (Kd.R_lower ho13 (below_size (by repeat (first | (with_reducible first | exact HB.out | apply below_alloc | apply pw_below_drewN | apply below_drew1) | exact HB.out)))); have n1_ := Aside0.mk (below_step (by repeat (first | (with_reducible first | exact HB.out | apply below_alloc | apply pw_below_drewN | apply below_drew1) | exact HB.out)) hb); clear HB; have HO112 := n0_; have HB := n1_; clear n0_ n1_; clear hb ho13) | ((with_reducible refine gate_callee (f := 19) rfl ?_); refine goesL_ (some 31) rfl rfl Try.func19 (by kernel_rfl) rfl #[.slice A1 l1.length c1, .int .i64 0, .int .i64 3] rfl (by (try simp only [List.map_toArray, List.map_cons, List.map_nil]); first | done | rfl | (simp only [List.length_drop, List.length_take]; rfl)) ?_; (with_reducible refine (laws_at.calls _ _ l1 0 3 t113 _ ?side1 ?side2 A6.out).mono ?_); (case side1 => repeat (first | exact (Kd.C_below HR1.out HB.out) | (with_reducible refine Kd.C_alloc ?_ _) | (with_reducible refine Kd.C_drewN ?_ _) | (with_reducible refine Kd.C_drew ?_))); (case side2 => exact HC1.out); rintro e w' ⟨rfl, ⟨nd, rfl⟩⟩; refine ⟨_, rfl, ?_⟩; obtain ⟨Ao14, co14, eo14⟩ := Kd.R_slice HO112.out; subst eo14; have p114 : 0 ≤ (t113 : Int) := of_decide_eq_true (by first | (with_reducible assumption) | assumption); have q114 : t113 < (y110.length : Int) := of_decide_eq_true (by first | (with_reducible assumption) | assumption); obtain ⟨ad114, e114, hx114_0⟩ := Kd.at_int (Kd.R_reads' HO112.out).2.2 t113 p114 q114; cases e114; replace p114 := eq_true p114; replace q114 := eq_true q114) | ((with_reducible refine gate_callee (f := 29) rfl ?_); refine goesL_ (some 36) rfl rfl Try.func29 (by kernel_rfl) rfl #[.int .i64 (rd y110 t113)] rfl (by (try simp only [List.map_toArray, List.map_cons, List.map_nil]); first | done | rfl | (simp only [List.length_drop, List.length_take]; rfl)) ?_; (with_reducible refine (impl_QuorumOf.calls (rd y110 t113) t115 t116 _ A9.out).mono ?_); rintro e w' ⟨rfl, ⟨nd, rfl⟩⟩; refine ⟨_, rfl, ?_⟩) | ((with_reducible refine gate_callee (f := 16) rfl ?_); refine goesL_ (some 41) rfl rfl Try.func16 (by kernel_rfl) rfl #[.int .i64 (rd y110 t113)] rfl (by (try simp only [List.map_toArray, List.map_cons, List.map_nil]); first | done | rfl | (simp only [List.length_drop, List.length_take]; rfl)) ?_; (with_reducible refine (impl_FaultsOf.calls (rd y110 t113) t117 t118 _ A10.out).mono ?_); rintro e w' ⟨rfl, ⟨nd, rfl⟩⟩; refine ⟨_, rfl, ?_⟩))
            (try simp only [Act.put, List.setIfInBounds_toArray, List.set_cons_zero, List.set_cons_succ])
            go_cut [72] (fun v72 wc => ∃ (kq : Nat) (x72_10 : Bool), v72 = .bool x72_10 ∧ Aside0 (laws_FnQuorums.j1 kq l0 l1 (rd y110 t113) t115 t117 x72_10 = some r) ∧ Aside0 (kq ≤ kj2) ∧ Aside0 (Below w.heap.size w wc))
            case first =>
              have H := HC11.out
              clear HC11
              by_cases c15 : t116 = 0
              · rw [if_pos c15] at H
                have c15b0 : (t116 == 0) = true := beq_iff_eq.mpr c15
                have c15b1 : (t116 != 0) = false := bne_eq_false_iff_eq.mpr c15
                clear c15
                (first | rw [c15b0] | (simp only [i64_w, i32_w]; rw [c15b0]) | skip)
                by_cases c16 : t118 = 0
                · rw [if_pos c16] at H
                  have c16b0 : (t118 == 0) = true := beq_iff_eq.mpr c16
                  have c16b1 : (t118 != 0) = false := bne_eq_false_iff_eq.mpr c16
                  clear c16
                  by_cases c17 : t115 = (wrap64 ((wrap64 (2 * t117)) + 1))
                  · rw [if_pos c17] at H
                    have c17b0 : (t115 == (wrap64 ((wrap64 (2 * t117)) + 1))) = true := beq_iff_eq.mpr c17
                    have c17b1 : (t115 != (wrap64 ((wrap64 (2 * t117)) + 1))) = false := bne_eq_false_iff_eq.mpr c17
                    clear c17
                    by_cases c18 : (wrap64 ((wrap64 (2 * t115)) - (rd y110 t113))) < (wrap64 (t117 + 1))
                    · rw [if_pos c18] at H
                      have c18b0 : decide ((wrap64 ((wrap64 (2 * t115)) - (rd y110 t113))) < (wrap64 (t117 + 1))) = true := decide_eq_true c18
                      clear c18
                      have H' := Aside0.mk H
                      clear H
                      go_wp2
                      go_meet
                      case rel => exact ⟨_, (true), (by first | rfl | (simp; done) | (simp [*]; done)), H', ⟨by have := HJ2.out; first | omega | exact Nat.le_refl _⟩, ⟨by repeat (first | (with_reducible first | exact HB.out | apply below_alloc | apply pw_below_drewN | apply below_drew1) | exact HB.out)⟩⟩
                    · rw [if_neg c18] at H
                      have c18b0 : decide ((wrap64 ((wrap64 (2 * t115)) - (rd y110 t113))) < (wrap64 (t117 + 1))) = false := decide_eq_false c18
                      clear c18
                      have H' := Aside0.mk H
                      clear H
                      go_wp2
                      go_meet
                      case rel => exact ⟨_, (decide ((wrap64 ((rd y110 t113) - t117)) < t115)), (by first | rfl | (simp; done) | (simp [*]; done)), H', ⟨by have := HJ2.out; first | omega | exact Nat.le_refl _⟩, ⟨by repeat (first | (with_reducible first | exact HB.out | apply below_alloc | apply pw_below_drewN | apply below_drew1) | exact HB.out)⟩⟩
                  · rw [if_neg c17] at H
                    have c17b0 : (t115 == (wrap64 ((wrap64 (2 * t117)) + 1))) = false := beq_eq_false_iff_ne.mpr c17
                    have c17b1 : (t115 != (wrap64 ((wrap64 (2 * t117)) + 1))) = true := bne_iff_ne.mpr c17
                    have H' := Aside0.mk H
                    clear H
                    go_wp2
                    go_meet
                    case rel => exact ⟨_, (true), (by first | rfl | (simp; done) | (simp [*]; done)), H', ⟨by have := HJ2.out; first | omega | exact Nat.le_refl _⟩, ⟨by repeat (first | (with_reducible first | exact HB.out | apply below_alloc | apply pw_below_drewN | apply below_drew1) | exact HB.out)⟩⟩
                · rw [if_neg c16] at H
                  have c16b0 : (t118 == 0) = false := beq_eq_false_iff_ne.mpr c16
                  have c16b1 : (t118 != 0) = true := bne_iff_ne.mpr c16
                  have H' := Aside0.mk H
                  clear H
                  go_wp2
                  go_meet
                  case rel => exact ⟨_, (true), (by first | rfl | (simp; done) | (simp [*]; done)), H', ⟨by have := HJ2.out; first | omega | exact Nat.le_refl _⟩, ⟨by repeat (first | (with_reducible first | exact HB.out | apply below_alloc | apply pw_below_drewN | apply below_drew1) | exact HB.out)⟩⟩
              · rw [if_neg c15] at H
                have c15b0 : (t116 == 0) = false := beq_eq_false_iff_ne.mpr c15
                have c15b1 : (t116 != 0) = true := bne_iff_ne.mpr c15
                (first | rw [c15b0] | (simp only [i64_w, i32_w]; rw [c15b0]) | skip)
                have H' := Aside0.mk H
                clear H
                go_wp2
                go_meet
                case rel => exact ⟨_, (true), (by first | rfl | (simp; done) | (simp [*]; done)), H', ⟨by have := HJ2.out; first | omega | exact Nat.le_refl _⟩, ⟨by repeat (first | (with_reducible first | exact HB.out | apply below_alloc | apply pw_below_drewN | apply below_drew1) | exact HB.out)⟩⟩
            case rest =>
              clear HC11
              try clear c1
              try clear p1
              try clear q1
              try clear hx1
              try clear c2
              try clear p2
              try clear c4
              try clear c4b0
              try clear c4b1
              try clear c5
              try clear p6
              try clear c7
              try clear c7b0
              try clear c8
              try clear c8b0
              try clear p11
              try clear q11
              try clear hx11
              try clear c12
              try clear c15
              try clear c15b0
              try clear c15b1
              try clear c16
              try clear c16b0
              try clear c16b1
              try clear c17
              try clear c17b0
              try clear c17b1
              try clear c18
              try clear c18b0
              try clear hx114_0
              try clear p114
              try clear p2
              try clear q114
              obtain ⟨kq, x72_10, rfl, HA, HJ10, HB⟩ := hcut
              cases kq with
              | zero => exact absurd HA.out (by simp [laws_FnQuorums.j1])
              | succ kj10 =>
                have H := HA.out
                clear HA
                simp only [laws_FnQuorums.j1] at H
                by_cases c19 : x72_10 = true
                · subst c19
                  have H1 : (some false) = some r := by rw [if_pos rfl] at H; exact H
                  clear H
                  have H := H1
                  clear H1
                  obtain rfl := Option.some.inj H
                  go_wp2
                  go_ret
                  exact ⟨by first | rfl | (simp [errW_none, errW_some] <;> rfl) | (simp [*, errW_none, errW_some] <;> rfl), by repeat (first | (with_reducible first | exact HB.out | apply below_alloc | apply pw_below_drewN | apply below_drew1) | exact HB.out)⟩
                · replace c19 := Bool.eq_false_iff.mpr c19
                  subst c19
                  have H1 : (laws_FnQuorums.l0 kj10 l0 l1 (rd y110 t113) t115 t117 (([] : List Int)) (([] : List Int)) 0) = some r := by rw [if_neg (show ¬ (false = true) by decide)] at H; exact H
                  clear H
                  have H := H1
                  clear H1
                  obtain ⟨y119, hy119⟩ : ∃ y_ : List Int, y_ = (([] : List Int)) := ⟨_, rfl⟩
                  replace H : (laws_FnQuorums.l0 kj10 l0 l1 (rd y110 t113) t115 t117 y119 (([] : List Int)) 0) = some r := by first | (rw [hy119]; with_reducible exact H) | (have H2_ := (Option.bind_some _ _).symm.trans H; rw [hy119]; with_reducible exact H2_) | (have H2_ := (Option.bind_some _ _).symm.trans H; with_reducible exact H2_) | with_reducible exact H | (rw [hy119]; exact H) | exact H
                  have Ny119 := Aside0.mk hy119
                  clear hy119
                  obtain ⟨y122, hy122⟩ : ∃ y_ : List Int, y_ = (([] : List Int)) := ⟨_, rfl⟩
                  replace H : (laws_FnQuorums.l0 kj10 l0 l1 (rd y110 t113) t115 t117 y119 y122 0) = some r := by first | (rw [hy122]; with_reducible exact H) | (have H2_ := (Option.bind_some _ _).symm.trans H; rw [hy122]; with_reducible exact H2_) | (have H2_ := (Option.bind_some _ _).symm.trans H; with_reducible exact H2_) | with_reducible exact H | (rw [hy122]; exact H) | exact H
                  have Ny122 := Aside0.mk hy122
                  clear hy122
                  have H' := Aside0.mk H
                  clear H
                  go_wp2_with (first | ((with_reducible refine gate_dst (N := 73) rfl ?_); (try (refine gate_guard (by rfl) ?_; dsimp only)); refine Kd.R_lit (Kd.int .i64) _ 3 ?hg (N := 73) ?hd (xs := ([] : List Int)) (inner := []) (ok := fun _ => True) (okp := fun _ => True) ?hr ?hp (fun _ hk => hk) trivial (Below.refl _ _) (Nat.le_refl _) (by simp) ?_; (case hd => rfl); (case hg => rfl); (case hr => first | (go_simp; done) | (go_simp; rfl)); (case hp => exact (Reps.none _ _)); intro v120 w20 ho21 hb hg_ hnew_; clear hg_ hnew_; (first | rw [← Ny119.out] at ho21 | (simp only [Int.reduceToNat] at ho21; rw [← Ny119.out] at ho21)); have n0_ := Aside0.mk (Kd.R_lower ho21 (below_size (by repeat (first | (with_reducible first | exact HB.out | apply below_alloc | apply pw_below_drewN | apply below_drew1) | exact HB.out)))); have n1_ := Aside0.mk (below_step (by repeat (first | (with_reducible first | exact HB.out | apply below_alloc | apply pw_below_drewN | apply below_drew1) | exact HB.out)) hb); clear HB; have HO121 := n0_; have HB := n1_; clear n0_ n1_; clear hb ho21) | ((with_reducible refine gate_dst (N := 74) rfl ?_); (try (refine gate_guard (by rfl) ?_; dsimp only)); refine Kd.R_lit (Kd.int .i64) _ 3 ?hg (N := 74) ?hd (xs := ([] : List Int)) (inner := []) (ok := fun _ => True) (okp := fun _ => True) ?hr ?hp (fun _ hk => hk) trivial (Below.refl _ _) (Nat.le_refl _) (by simp) ?_; (case hd => rfl); (case hg => rfl); (case hr => first | (go_simp; done) | (go_simp; rfl)); (case hp => exact (Reps.none _ _)); intro v123 w22 ho23 hb hg_ hnew_; clear hg_ hnew_; (first | rw [← Ny122.out] at ho23 | (simp only [Int.reduceToNat] at ho23; rw [← Ny122.out] at ho23)); have n0_ := Aside0.mk (Kd.R_elder' (by (with_reducible repeat (first | apply Kd.R_alloc | apply Kd.R_drewN | apply Kd.R_drew)); exact HO121.out) (Kd.R_base ho23) hb); have n1_ := Aside0.mk (Kd.R_lower (Kd.R_new' ho23 (Kd.R_lt (by (with_reducible repeat (first | apply Kd.R_alloc | apply Kd.R_drewN | apply Kd.R_drew)); exact HO121.out))) (below_size (by repeat (first | (with_reducible first | exact HB.out | apply below_alloc | apply pw_below_drewN | apply below_drew1) | exact HB.out)))); have n2_ := Aside0.mk (below_step (by repeat (first | (with_reducible first | exact HB.out | apply below_alloc | apply pw_below_drewN | apply below_drew1) | exact HB.out)) hb); clear HO121; clear HB; have HO121 := n0_; have HO124 := n1_; have HB := n2_; clear n0_ n1_ n2_; clear hb ho23))
                  go_loopg [10, 12] kj10 (fun kq v10 v12 w' => ∃ (x10_3 : List Int) (x12_3 : Int), v12 = .int .i64 x12_3 ∧ Aside0 (laws_FnQuorums.l0 kq l0 l1 (rd y110 t113) t115 t117 x10_3 y122 x12_3 = some r) ∧ Aside0 (kq ≤ kj10) ∧ Aside0 (Kd.R (Kd.int .i64) 3 w' w.heap.size (fun k_ => some k_ ≠ (v123 : Value).ownBlock) v10 x10_3) ∧ Aside0 (Kd.R (Kd.int .i64) 3 w' w.heap.size (fun k_ => some k_ ≠ (v10 : Value).ownBlock) v123 y122) ∧ Aside0 (Below w.heap.size w w'))
                  case atStart => exact ⟨(y119), (0), (by first | rfl | (simp; done) | (simp [*]; done)), H', ⟨Nat.le_refl _⟩, ⟨by (with_reducible repeat (first | apply Kd.R_alloc | apply Kd.R_drewN | apply Kd.R_drew)); exact Kd.R_mono HO121.out (fun _ hk => hk.2)⟩, ⟨by (with_reducible repeat (first | apply Kd.R_alloc | apply Kd.R_drewN | apply Kd.R_drew)); exact Kd.R_mono HO124.out (fun _ hk => hk.2)⟩, ⟨by repeat (first | (with_reducible first | exact HB.out | apply below_alloc | apply pw_below_drewN | apply below_drew1) | exact HB.out)⟩⟩
                  case round =>
                    clear H'
                    try clear c1
                    try clear p1
                    try clear q1
                    try clear hx1
                    try clear c2
                    try clear p2
                    try clear c4
                    try clear c4b0
                    try clear c4b1
                    try clear c5
                    try clear p6
                    try clear c7
                    try clear c7b0
                    try clear c8
                    try clear c8b0
                    try clear p11
                    try clear q11
                    try clear hx11
                    try clear c12
                    try clear c15
                    try clear c15b0
                    try clear c15b1
                    try clear c16
                    try clear c16b0
                    try clear c16b1
                    try clear c17
                    try clear c17b0
                    try clear c17b1
                    try clear c18
                    try clear c18b0
                    try clear c19
                    try clear hx114_0
                    try clear p1
                    try clear p11
                    try clear p114
                    try clear p2
                    try clear p6
                    try clear q1
                    try clear q11
                    try clear q114
                    obtain ⟨x10_3, x12_3, rfl, HA, HK3, HO_10, HO_11, HB⟩ := hrel
                    cases gk with
                    | zero => exact absurd HA.out (by simp [laws_FnQuorums.l0])
                    | succ k3 =>
                      have H := HA.out
                      clear HA
                      simp only [laws_FnQuorums.l0] at H
                      have HC24 := Aside0.mk H
                      clear H
                      go_upto_region 11 with (fail)
                      go_cut [82] (fun v82 wc => ∃ (kq : Nat) (x82_23 : Bool), v82 = .bool x82_23 ∧ Aside0 (laws_FnQuorums.j3 kq l0 l1 (rd y110 t113) t115 t117 x10_3 y122 x12_3 x82_23 = some r) ∧ Aside0 (kq ≤ k3) ∧ Aside0 (Kd.R (Kd.int .i64) 3 wc w.heap.size (fun k_ => some k_ ≠ (v123 : Value).ownBlock) u10 x10_3) ∧ Aside0 (Kd.R (Kd.int .i64) 3 wc w.heap.size (fun k_ => some k_ ≠ (u10 : Value).ownBlock) v123 y122) ∧ Aside0 (Below w.heap.size w wc))
                      case first =>
                        have H := HC24.out
                        clear HC24
                        by_cases c25 : (x10_3.length : Int) < t115
                        · rw [if_pos c25] at H
                          have c25b0 : decide ((x10_3.length : Int) < t115) = true := decide_eq_true c25
                          clear c25
                          (first | rw [c25b0] | (simp only [i64_w, i32_w]; rw [c25b0]) | skip)
                          have H' := Aside0.mk H
                          clear H
                          obtain ⟨Ao26, co26, eo26⟩ := Kd.R_slice HO_10.out
                          subst eo26
                          go_wp2
                          go_meet
                          case rel => exact ⟨_, (decide (x12_3 < 200)), (by first | rfl | (simp; done) | (simp [*]; done)), H', ⟨by have := HJ2.out; have := HJ10.out; have := HK3.out; first | omega | exact Nat.le_refl _⟩, ⟨by (with_reducible repeat (first | apply Kd.R_alloc | apply Kd.R_drewN | apply Kd.R_drew)); exact HO_10.out⟩, ⟨by (with_reducible repeat (first | apply Kd.R_alloc | apply Kd.R_drewN | apply Kd.R_drew)); exact HO_11.out⟩, ⟨by repeat (first | (with_reducible first | exact HB.out | apply below_alloc | apply pw_below_drewN | apply below_drew1) | exact HB.out)⟩⟩
                        · rw [if_neg c25] at H
                          have c25b0 : decide ((x10_3.length : Int) < t115) = false := decide_eq_false c25
                          clear c25
                          (first | rw [c25b0] | (simp only [i64_w, i32_w]; rw [c25b0]) | skip)
                          have H' := Aside0.mk H
                          clear H
                          obtain ⟨Ao27, co27, eo27⟩ := Kd.R_slice HO_10.out
                          subst eo27
                          go_wp2
                          go_meet
                          case rel => exact ⟨_, (false), (by first | rfl | (simp; done) | (simp [*]; done)), H', ⟨by have := HJ2.out; have := HJ10.out; have := HK3.out; first | omega | exact Nat.le_refl _⟩, ⟨by (with_reducible repeat (first | apply Kd.R_alloc | apply Kd.R_drewN | apply Kd.R_drew)); exact HO_10.out⟩, ⟨by (with_reducible repeat (first | apply Kd.R_alloc | apply Kd.R_drewN | apply Kd.R_drew)); exact HO_11.out⟩, ⟨by repeat (first | (with_reducible first | exact HB.out | apply below_alloc | apply pw_below_drewN | apply below_drew1) | exact HB.out)⟩⟩
                      case rest =>
                        clear HC24
                        try clear c1
                        try clear p1
                        try clear q1
                        try clear hx1
                        try clear c2
                        try clear p2
                        try clear c4
                        try clear c4b0
                        try clear c4b1
                        try clear c5
                        try clear p6
                        try clear c7
                        try clear c7b0
                        try clear c8
                        try clear c8b0
                        try clear p11
                        try clear q11
                        try clear hx11
                        try clear c12
                        try clear c15
                        try clear c15b0
                        try clear c15b1
                        try clear c16
                        try clear c16b0
                        try clear c16b1
                        try clear c17
                        try clear c17b0
                        try clear c17b1
                        try clear c18
                        try clear c18b0
                        try clear c19
                        try clear c25
                        try clear c25b0
                        try clear hx114_0
                        try clear p1
                        try clear p11
                        try clear p114
                        try clear p2
                        try clear p6
                        try clear q1
                        try clear q11
                        try clear q114
                        obtain ⟨kq, x82_23, rfl, HA, HJ23, HO_10, HO_11, HB⟩ := hcut
                        cases kq with
                        | zero => exact absurd HA.out (by simp [laws_FnQuorums.j3])
                        | succ kj23 =>
                          have H := HA.out
                          clear HA
                          simp only [laws_FnQuorums.j3] at H
                          by_cases c28 : x82_23 = true
                          · subst c28
                            have H1 : ((laws_at.f l0 x12_3 (rd y110 t113)).bind fun t125 => ((laws_hasInt.f kj23 x10_3 t125).bind fun t126 => (if t126 = true then (laws_FnQuorums.l0 kj23 l0 l1 (rd y110 t113) t115 t117 x10_3 y122 (wrap64 (x12_3 + 1))) else (if x10_3.length < 17592186044416 then (laws_FnQuorums.l0 kj23 l0 l1 (rd y110 t113) t115 t117 (x10_3 ++ [t125]) y122 (wrap64 (x12_3 + 1))) else (none))))) = some r := by rw [if_pos rfl] at H; exact H
                            clear H
                            have H := H1
                            clear H1
                            replace H := Option.bind_eq_some_iff.mp H
                            obtain ⟨t125, A290, H⟩ := H
                            replace H : ((laws_hasInt.f kj23 x10_3 t125).bind fun t126 => (if t126 = true then (laws_FnQuorums.l0 kj23 l0 l1 (rd y110 t113) t115 t117 x10_3 y122 (wrap64 (x12_3 + 1))) else (if x10_3.length < 17592186044416 then (laws_FnQuorums.l0 kj23 l0 l1 (rd y110 t113) t115 t117 (x10_3 ++ [t125]) y122 (wrap64 (x12_3 + 1))) else (none)))) = some r := H
                            have A29 := Aside0.mk A290
                            clear A290
                            replace H := Option.bind_eq_some_iff.mp H
                            obtain ⟨t126, A300, H⟩ := H
                            replace H : (if t126 = true then (laws_FnQuorums.l0 kj23 l0 l1 (rd y110 t113) t115 t117 x10_3 y122 (wrap64 (x12_3 + 1))) else (if x10_3.length < 17592186044416 then (laws_FnQuorums.l0 kj23 l0 l1 (rd y110 t113) t115 t117 (x10_3 ++ [t125]) y122 (wrap64 (x12_3 + 1))) else (none))) = some r := H
                            have A30 := Aside0.mk A300
                            clear A300
                            by_cases c31 : t126 = true
                            · subst c31
                              have H1 : (laws_FnQuorums.l0 kj23 l0 l1 (rd y110 t113) t115 t117 x10_3 y122 (wrap64 (x12_3 + 1))) = some r := by rw [if_pos rfl] at H; exact H
                              clear H
                              have H := H1
                              clear H1
                              have H' := Aside0.mk H
                              clear H
                              go_wp2_with (first | ((with_reducible refine gate_callee (f := 19) rfl ?_); refine goesL_ (some 88) rfl rfl Try.func19 (by kernel_rfl) rfl #[.slice A0 l0.length c0, .int .i64 x12_3, .int .i64 (rd y110 t113)] rfl (by (try simp only [List.map_toArray, List.map_cons, List.map_nil]); first | done | rfl | (simp only [List.length_drop, List.length_take]; rfl)) ?_; (with_reducible refine (laws_at.calls _ _ l0 x12_3 (rd y110 t113) t125 _ ?side1 ?side2 A29.out).mono ?_); (case side1 => repeat (first | exact (Kd.C_below HR0.out HB.out) | (with_reducible refine Kd.C_alloc ?_ _) | (with_reducible refine Kd.C_drewN ?_ _) | (with_reducible refine Kd.C_drew ?_))); (case side2 => exact HC0.out); rintro e w' ⟨rfl, ⟨nd, rfl⟩⟩; refine ⟨_, rfl, ?_⟩; obtain ⟨Ao32, co32, eo32⟩ := Kd.R_slice HO_10.out; subst eo32) | ((with_reducible refine gate_callee (f := 32) rfl ?_); refine goesL_ (some 91) rfl rfl Try.func32 (by kernel_rfl) rfl #[.slice Ao32 x10_3.length co32, .int .i64 t125] rfl (by (try simp only [List.map_toArray, List.map_cons, List.map_nil]); first | done | rfl | (simp only [List.length_drop, List.length_take]; rfl)) ?_; (with_reducible refine (laws_hasInt.calls kj23 _ _ x10_3 t125 true _ ?side1 ?side2 A30.out).mono ?_); (case side1 => repeat (first | exact (Kd.R_reads' HO_10.out).2.2 | (with_reducible refine Kd.C_alloc ?_ _) | (with_reducible refine Kd.C_drewN ?_ _) | (with_reducible refine Kd.C_drew ?_))); (case side2 => exact (Kd.R_reads' HO_10.out).2.1); rintro e w' ⟨rfl, ⟨nd, rfl⟩⟩; refine ⟨_, rfl, ?_⟩))
                              go_roundg kj23
                              case measure => have := HJ2.out; have := HJ10.out; have := HK3.out; have := HJ23.out; omega
                              case rel => exact ⟨(x10_3), (wrap64 (x12_3 + 1)), (by first | rfl | (simp; done) | (simp [*]; done)), H', ⟨by have := HJ2.out; have := HJ10.out; have := HK3.out; have := HJ23.out; omega⟩, ⟨by (with_reducible repeat (first | apply Kd.R_alloc | apply Kd.R_drewN | apply Kd.R_drew)); exact HO_10.out⟩, ⟨by (with_reducible repeat (first | apply Kd.R_alloc | apply Kd.R_drewN | apply Kd.R_drew)); exact HO_11.out⟩, ⟨by repeat (first | (with_reducible first | exact HB.out | apply below_alloc | apply pw_below_drewN | apply below_drew1) | exact HB.out)⟩⟩
                            · replace c31 := Bool.eq_false_iff.mpr c31
                              subst c31
                              have H1 : (if x10_3.length < 17592186044416 then (laws_FnQuorums.l0 kj23 l0 l1 (rd y110 t113) t115 t117 (x10_3 ++ [t125]) y122 (wrap64 (x12_3 + 1))) else (none)) = some r := by rw [if_neg (show ¬ (false = true) by decide)] at H; exact H
                              clear H
                              have H := H1
                              clear H1
                              by_cases c33 : x10_3.length < 17592186044416
                              · rw [if_pos c33] at H
                                have LMc33 := Aside0.mk c33
                                clear c33
                                obtain ⟨y127, hy127⟩ : ∃ y_ : List Int, y_ = (x10_3 ++ [t125]) := ⟨_, rfl⟩
                                replace H : (laws_FnQuorums.l0 kj23 l0 l1 (rd y110 t113) t115 t117 y127 y122 (wrap64 (x12_3 + 1))) = some r := by first | (rw [hy127]; with_reducible exact H) | (have H2_ := (Option.bind_some _ _).symm.trans H; rw [hy127]; with_reducible exact H2_) | (have H2_ := (Option.bind_some _ _).symm.trans H; with_reducible exact H2_) | with_reducible exact H | (rw [hy127]; exact H) | exact H
                                have Ny127 := Aside0.mk hy127
                                clear hy127
                                have H' := Aside0.mk H
                                clear H
                                go_wp2_with (first | ((with_reducible refine gate_callee (f := 19) rfl ?_); refine goesL_ (some 88) rfl rfl Try.func19 (by kernel_rfl) rfl #[.slice A0 l0.length c0, .int .i64 x12_3, .int .i64 (rd y110 t113)] rfl (by (try simp only [List.map_toArray, List.map_cons, List.map_nil]); first | done | rfl | (simp only [List.length_drop, List.length_take]; rfl)) ?_; (with_reducible refine (laws_at.calls _ _ l0 x12_3 (rd y110 t113) t125 _ ?side1 ?side2 A29.out).mono ?_); (case side1 => repeat (first | exact (Kd.C_below HR0.out HB.out) | (with_reducible refine Kd.C_alloc ?_ _) | (with_reducible refine Kd.C_drewN ?_ _) | (with_reducible refine Kd.C_drew ?_))); (case side2 => exact HC0.out); rintro e w' ⟨rfl, ⟨nd, rfl⟩⟩; refine ⟨_, rfl, ?_⟩; obtain ⟨Ao34, co34, eo34⟩ := Kd.R_slice HO_10.out; subst eo34) | ((with_reducible refine gate_callee (f := 32) rfl ?_); refine goesL_ (some 91) rfl rfl Try.func32 (by kernel_rfl) rfl #[.slice Ao34 x10_3.length co34, .int .i64 t125] rfl (by (try simp only [List.map_toArray, List.map_cons, List.map_nil]); first | done | rfl | (simp only [List.length_drop, List.length_take]; rfl)) ?_; (with_reducible refine (laws_hasInt.calls kj23 _ _ x10_3 t125 false _ ?side1 ?side2 A30.out).mono ?_); (case side1 => repeat (first | exact (Kd.R_reads' HO_10.out).2.2 | (with_reducible refine Kd.C_alloc ?_ _) | (with_reducible refine Kd.C_drewN ?_ _) | (with_reducible refine Kd.C_drew ?_))); (case side2 => exact (Kd.R_reads' HO_10.out).2.1); rintro e w' ⟨rfl, ⟨nd, rfl⟩⟩; refine ⟨_, rfl, ?_⟩) | ((with_reducible refine gate_builtin (b := .append) (xs := #[.tmp 93, .tmp 95]) rfl ?_); (try (refine gate_guard (by rfl) ?_; dsimp only)); at_builtin; refine Kd.R_append (Kd.int .i64) (w0 := w) w.heap.size rfl (.tmp 93) (.tmp 95) 41 3 (.int .i64 0) 8 rfl Try.underlying41 info3 rfl (by decide) (by omega) (.slice Ao34 x10_3.length co34) x10_3 t125 [.int .i64 t125] (fun k_ => some k_ ≠ (v123 : Value).ownBlock) (fun _ => False) rfl rfl ?aP (fun _ hk => hk.elim) ?aF ?aO ?aB ?aS ?aL ?_; (case aP => exact rfl); (case aB => exact (by repeat (first | (with_reducible first | exact HB.out | apply below_alloc | apply pw_below_drewN | apply below_drew1) | exact HB.out))); (case aF => exact (fun k_ hk => Kd.fresh' (Kd.R_lt (by (with_reducible repeat (first | apply Kd.R_alloc | apply Kd.R_drewN | apply Kd.R_drew)); exact HO_11.out)) k_ hk)); (case aO => exact (by (with_reducible repeat (first | apply Kd.R_alloc | apply Kd.R_drewN | apply Kd.R_drew)); exact HO_10.out)); (case aS => exact (below_size (by repeat (first | (with_reducible first | exact HB.out | apply below_alloc | apply pw_below_drewN | apply below_drew1) | exact HB.out)))); (case aL => have := LMc33.out; omega); intro v128 w35 ho hb hg hat; rw [← Ny127.out] at ho; have n0_ := Aside0.mk (Kd.R_after (ok := (fun _ => True)) (by (with_reducible repeat (first | apply Kd.R_alloc | apply Kd.R_drewN | apply Kd.R_drew)); exact Kd.R_mono HO_11.out (fun _ hk => ⟨trivial, hk⟩)) hg hat); have n1_ := Aside0.mk (hb); have n2_ := Aside0.mk (ho); clear HO_11; clear HB; clear HO_10; have HO_11 := n0_; have HB := n1_; have HO129 := n2_; clear n0_ n1_ n2_; clear ho hb hg hat))
                                go_roundg kj23
                                case measure => have := HJ2.out; have := HJ10.out; have := HK3.out; have := HJ23.out; omega
                                case rel => exact ⟨(y127), (wrap64 (x12_3 + 1)), (by first | rfl | (simp; done) | (simp [*]; done)), H', ⟨by have := HJ2.out; have := HJ10.out; have := HK3.out; have := HJ23.out; omega⟩, ⟨by (with_reducible repeat (first | apply Kd.R_alloc | apply Kd.R_drewN | apply Kd.R_drew)); exact HO129.out⟩, ⟨by (with_reducible repeat (first | apply Kd.R_alloc | apply Kd.R_drewN | apply Kd.R_drew)); exact Kd.R_mono HO_11.out (fun _ hk => hk.2)⟩, ⟨by repeat (first | (with_reducible first | exact HB.out | apply below_alloc | apply pw_below_drewN | apply below_drew1) | exact HB.out)⟩⟩
                              · rw [if_neg c33] at H
                                exact absurd H (by simp)
                          · replace c28 := Bool.eq_false_iff.mpr c28
                            subst c28
                            have H1 : (laws_FnQuorums.l1 kj23 l0 l1 (rd y110 t113) t115 t117 x10_3 y122 0) = some r := by rw [if_neg (show ¬ (false = true) by decide)] at H; exact H
                            clear H
                            have H := H1
                            clear H1
                            have H' := Aside0.mk H
                            clear H
                            go_wp2
                            go_loopg [11, 14] kj23 (fun kq v11 v14 w' => ∃ (x11_5 : List Int) (x14_5 : Int), v14 = .int .i64 x14_5 ∧ Aside0 (laws_FnQuorums.l1 kq l0 l1 (rd y110 t113) t115 t117 x10_3 x11_5 x14_5 = some r) ∧ Aside0 (kq ≤ kj23) ∧ Aside0 (Kd.R (Kd.int .i64) 3 w' w.heap.size (fun k_ => some k_ ≠ (v11 : Value).ownBlock) u10 x10_3) ∧ Aside0 (Kd.R (Kd.int .i64) 3 w' w.heap.size (fun k_ => some k_ ≠ (u10 : Value).ownBlock) v11 x11_5) ∧ Aside0 (Below w.heap.size w w'))
                            case atStart => exact ⟨(y122), (0), (by first | rfl | (simp; done) | (simp [*]; done)), H', ⟨Nat.le_refl _⟩, ⟨by (with_reducible repeat (first | apply Kd.R_alloc | apply Kd.R_drewN | apply Kd.R_drew)); exact HO_10.out⟩, ⟨by (with_reducible repeat (first | apply Kd.R_alloc | apply Kd.R_drewN | apply Kd.R_drew)); exact HO_11.out⟩, ⟨by repeat (first | (with_reducible first | exact HB.out | apply below_alloc | apply pw_below_drewN | apply below_drew1) | exact HB.out)⟩⟩
                            case round =>
                              clear H'
                              try clear c1
                              try clear p1
                              try clear q1
                              try clear hx1
                              try clear c2
                              try clear p2
                              try clear c3
                              try clear c4
                              try clear c4b0
                              try clear c4b1
                              try clear c5
                              try clear p6
                              try clear c7
                              try clear c7b0
                              try clear c8
                              try clear c8b0
                              try clear p11
                              try clear q11
                              try clear hx11
                              try clear c12
                              try clear c15
                              try clear c15b0
                              try clear c15b1
                              try clear c16
                              try clear c16b0
                              try clear c16b1
                              try clear c17
                              try clear c17b0
                              try clear c17b1
                              try clear c18
                              try clear c18b0
                              try clear c19
                              try clear c25
                              try clear c25b0
                              try clear c28
                              try clear c29
                              try clear c31
                              try clear c32
                              try clear c33
                              try clear hx114_0
                              try clear p1
                              try clear p11
                              try clear p114
                              try clear p2
                              try clear p6
                              try clear q1
                              try clear q11
                              try clear q114
                              obtain ⟨x11_5, x14_5, rfl, HA, HK5, HO_10, HO_11, HB⟩ := hrel
                              cases gk with
                              | zero => exact absurd HA.out (by simp [laws_FnQuorums.l1])
                              | succ k5 =>
                                have H := HA.out
                                clear HA
                                simp only [laws_FnQuorums.l1] at H
                                have HC36 := Aside0.mk H
                                clear H
                                go_upto_region 17 with (fail)
                                go_cut [104] (fun v104 wc => ∃ (kq : Nat) (x104_35 : Bool), v104 = .bool x104_35 ∧ Aside0 (laws_FnQuorums.j5 kq l0 l1 (rd y110 t113) t115 t117 x10_3 x11_5 x14_5 x104_35 = some r) ∧ Aside0 (kq ≤ k5) ∧ Aside0 (Kd.R (Kd.int .i64) 3 wc w.heap.size (fun k_ => some k_ ≠ (u11 : Value).ownBlock) u10 x10_3) ∧ Aside0 (Kd.R (Kd.int .i64) 3 wc w.heap.size (fun k_ => some k_ ≠ (u10 : Value).ownBlock) u11 x11_5) ∧ Aside0 (Below w.heap.size w wc))
                                case first =>
                                  have H := HC36.out
                                  clear HC36
                                  by_cases c37 : (x11_5.length : Int) < t115
                                  · rw [if_pos c37] at H
                                    have c37b0 : decide ((x11_5.length : Int) < t115) = true := decide_eq_true c37
                                    clear c37
                                    (first | rw [c37b0] | (simp only [i64_w, i32_w]; rw [c37b0]) | skip)
                                    have H' := Aside0.mk H
                                    clear H
                                    obtain ⟨Ao38, co38, eo38⟩ := Kd.R_slice HO_11.out
                                    subst eo38
                                    go_wp2
                                    go_meet
                                    case rel => exact ⟨_, (decide (x14_5 < 200)), (by first | rfl | (simp; done) | (simp [*]; done)), H', ⟨by have := HJ2.out; have := HJ10.out; have := HK3.out; have := HJ23.out; have := HK5.out; first | omega | exact Nat.le_refl _⟩, ⟨by (with_reducible repeat (first | apply Kd.R_alloc | apply Kd.R_drewN | apply Kd.R_drew)); exact HO_10.out⟩, ⟨by (with_reducible repeat (first | apply Kd.R_alloc | apply Kd.R_drewN | apply Kd.R_drew)); exact HO_11.out⟩, ⟨by repeat (first | (with_reducible first | exact HB.out | apply below_alloc | apply pw_below_drewN | apply below_drew1) | exact HB.out)⟩⟩
                                  · rw [if_neg c37] at H
                                    have c37b0 : decide ((x11_5.length : Int) < t115) = false := decide_eq_false c37
                                    clear c37
                                    (first | rw [c37b0] | (simp only [i64_w, i32_w]; rw [c37b0]) | skip)
                                    have H' := Aside0.mk H
                                    clear H
                                    obtain ⟨Ao39, co39, eo39⟩ := Kd.R_slice HO_11.out
                                    subst eo39
                                    go_wp2
                                    go_meet
                                    case rel => exact ⟨_, (false), (by first | rfl | (simp; done) | (simp [*]; done)), H', ⟨by have := HJ2.out; have := HJ10.out; have := HK3.out; have := HJ23.out; have := HK5.out; first | omega | exact Nat.le_refl _⟩, ⟨by (with_reducible repeat (first | apply Kd.R_alloc | apply Kd.R_drewN | apply Kd.R_drew)); exact HO_10.out⟩, ⟨by (with_reducible repeat (first | apply Kd.R_alloc | apply Kd.R_drewN | apply Kd.R_drew)); exact HO_11.out⟩, ⟨by repeat (first | (with_reducible first | exact HB.out | apply below_alloc | apply pw_below_drewN | apply below_drew1) | exact HB.out)⟩⟩
                                case rest =>
                                  clear HC36
                                  try clear c1
                                  try clear p1
                                  try clear q1
                                  try clear hx1
                                  try clear c2
                                  try clear p2
                                  try clear c3
                                  try clear c4
                                  try clear c4b0
                                  try clear c4b1
                                  try clear c5
                                  try clear p6
                                  try clear c7
                                  try clear c7b0
                                  try clear c8
                                  try clear c8b0
                                  try clear p11
                                  try clear q11
                                  try clear hx11
                                  try clear c12
                                  try clear c15
                                  try clear c15b0
                                  try clear c15b1
                                  try clear c16
                                  try clear c16b0
                                  try clear c16b1
                                  try clear c17
                                  try clear c17b0
                                  try clear c17b1
                                  try clear c18
                                  try clear c18b0
                                  try clear c19
                                  try clear c25
                                  try clear c25b0
                                  try clear c28
                                  try clear c29
                                  try clear c31
                                  try clear c32
                                  try clear c33
                                  try clear c37
                                  try clear c37b0
                                  try clear hx114_0
                                  try clear p1
                                  try clear p11
                                  try clear p114
                                  try clear p2
                                  try clear p6
                                  try clear q1
                                  try clear q11
                                  try clear q114
                                  obtain ⟨kq, x104_35, rfl, HA, HJ35, HO_10, HO_11, HB⟩ := hcut
                                  cases kq with
                                  | zero => exact absurd HA.out (by simp [laws_FnQuorums.j5])
                                  | succ kj35 =>
                                    have H := HA.out
                                    clear HA
                                    simp only [laws_FnQuorums.j5] at H
                                    by_cases c40 : x104_35 = true
                                    · subst c40
                                      have H1 : ((laws_at.f l1 x14_5 (rd y110 t113)).bind fun t130 => ((laws_hasInt.f kj35 x11_5 t130).bind fun t131 => (if t131 = true then (laws_FnQuorums.l1 kj35 l0 l1 (rd y110 t113) t115 t117 x10_3 x11_5 (wrap64 (x14_5 + 1))) else (if x11_5.length < 17592186044416 then (laws_FnQuorums.l1 kj35 l0 l1 (rd y110 t113) t115 t117 x10_3 (x11_5 ++ [t130]) (wrap64 (x14_5 + 1))) else (none))))) = some r := by rw [if_pos rfl] at H; exact H
                                      clear H
                                      have H := H1
                                      clear H1
                                      replace H := Option.bind_eq_some_iff.mp H
                                      obtain ⟨t130, A410, H⟩ := H
                                      replace H : ((laws_hasInt.f kj35 x11_5 t130).bind fun t131 => (if t131 = true then (laws_FnQuorums.l1 kj35 l0 l1 (rd y110 t113) t115 t117 x10_3 x11_5 (wrap64 (x14_5 + 1))) else (if x11_5.length < 17592186044416 then (laws_FnQuorums.l1 kj35 l0 l1 (rd y110 t113) t115 t117 x10_3 (x11_5 ++ [t130]) (wrap64 (x14_5 + 1))) else (none)))) = some r := H
                                      have A41 := Aside0.mk A410
                                      clear A410
                                      replace H := Option.bind_eq_some_iff.mp H
                                      obtain ⟨t131, A420, H⟩ := H
                                      replace H : (if t131 = true then (laws_FnQuorums.l1 kj35 l0 l1 (rd y110 t113) t115 t117 x10_3 x11_5 (wrap64 (x14_5 + 1))) else (if x11_5.length < 17592186044416 then (laws_FnQuorums.l1 kj35 l0 l1 (rd y110 t113) t115 t117 x10_3 (x11_5 ++ [t130]) (wrap64 (x14_5 + 1))) else (none))) = some r := H
                                      have A42 := Aside0.mk A420
                                      clear A420
                                      by_cases c43 : t131 = true
                                      · subst c43
                                        have H1 : (laws_FnQuorums.l1 kj35 l0 l1 (rd y110 t113) t115 t117 x10_3 x11_5 (wrap64 (x14_5 + 1))) = some r := by rw [if_pos rfl] at H; exact H
                                        clear H
                                        have H := H1
                                        clear H1
                                        have H' := Aside0.mk H
                                        clear H
                                        go_wp2_with (first | ((with_reducible refine gate_callee (f := 19) rfl ?_); refine goesL_ (some 110) rfl rfl Try.func19 (by kernel_rfl) rfl #[.slice A1 l1.length c1, .int .i64 x14_5, .int .i64 (rd y110 t113)] rfl (by (try simp only [List.map_toArray, List.map_cons, List.map_nil]); first | done | rfl | (simp only [List.length_drop, List.length_take]; rfl)) ?_; (with_reducible refine (laws_at.calls _ _ l1 x14_5 (rd y110 t113) t130 _ ?side1 ?side2 A41.out).mono ?_); (case side1 => repeat (first | exact (Kd.C_below HR1.out HB.out) | (with_reducible refine Kd.C_alloc ?_ _) | (with_reducible refine Kd.C_drewN ?_ _) | (with_reducible refine Kd.C_drew ?_))); (case side2 => exact HC1.out); rintro e w' ⟨rfl, ⟨nd, rfl⟩⟩; refine ⟨_, rfl, ?_⟩; obtain ⟨Ao44, co44, eo44⟩ := Kd.R_slice HO_11.out; subst eo44) | ((with_reducible refine gate_callee (f := 32) rfl ?_); refine goesL_ (some 113) rfl rfl Try.func32 (by kernel_rfl) rfl #[.slice Ao44 x11_5.length co44, .int .i64 t130] rfl (by (try simp only [List.map_toArray, List.map_cons, List.map_nil]); first | done | rfl | (simp only [List.length_drop, List.length_take]; rfl)) ?_; (with_reducible refine (laws_hasInt.calls kj35 _ _ x11_5 t130 true _ ?side1 ?side2 A42.out).mono ?_); (case side1 => repeat (first | exact (Kd.R_reads' HO_11.out).2.2 | (with_reducible refine Kd.C_alloc ?_ _) | (with_reducible refine Kd.C_drewN ?_ _) | (with_reducible refine Kd.C_drew ?_))); (case side2 => exact (Kd.R_reads' HO_11.out).2.1); rintro e w' ⟨rfl, ⟨nd, rfl⟩⟩; refine ⟨_, rfl, ?_⟩))
                                        go_roundg kj35
                                        case measure => have := HJ2.out; have := HJ10.out; have := HK3.out; have := HJ23.out; have := HK5.out; have := HJ35.out; omega
                                        case rel => exact ⟨(x11_5), (wrap64 (x14_5 + 1)), (by first | rfl | (simp; done) | (simp [*]; done)), H', ⟨by have := HJ2.out; have := HJ10.out; have := HK3.out; have := HJ23.out; have := HK5.out; have := HJ35.out; omega⟩, ⟨by (with_reducible repeat (first | apply Kd.R_alloc | apply Kd.R_drewN | apply Kd.R_drew)); exact HO_10.out⟩, ⟨by (with_reducible repeat (first | apply Kd.R_alloc | apply Kd.R_drewN | apply Kd.R_drew)); exact HO_11.out⟩, ⟨by repeat (first | (with_reducible first | exact HB.out | apply below_alloc | apply pw_below_drewN | apply below_drew1) | exact HB.out)⟩⟩
                                      · replace c43 := Bool.eq_false_iff.mpr c43
                                        subst c43
                                        have H1 : (if x11_5.length < 17592186044416 then (laws_FnQuorums.l1 kj35 l0 l1 (rd y110 t113) t115 t117 x10_3 (x11_5 ++ [t130]) (wrap64 (x14_5 + 1))) else (none)) = some r := by rw [if_neg (show ¬ (false = true) by decide)] at H; exact H
                                        clear H
                                        have H := H1
                                        clear H1
                                        by_cases c45 : x11_5.length < 17592186044416
                                        · rw [if_pos c45] at H
                                          have LMc45 := Aside0.mk c45
                                          clear c45
                                          obtain ⟨y132, hy132⟩ : ∃ y_ : List Int, y_ = (x11_5 ++ [t130]) := ⟨_, rfl⟩
                                          replace H : (laws_FnQuorums.l1 kj35 l0 l1 (rd y110 t113) t115 t117 x10_3 y132 (wrap64 (x14_5 + 1))) = some r := by first | (rw [hy132]; with_reducible exact H) | (have H2_ := (Option.bind_some _ _).symm.trans H; rw [hy132]; with_reducible exact H2_) | (have H2_ := (Option.bind_some _ _).symm.trans H; with_reducible exact H2_) | with_reducible exact H | (rw [hy132]; exact H) | exact H
                                          have Ny132 := Aside0.mk hy132
                                          clear hy132
                                          have H' := Aside0.mk H
                                          clear H
                                          go_wp2_with (first | ((with_reducible refine gate_callee (f := 19) rfl ?_); refine goesL_ (some 110) rfl rfl Try.func19 (by kernel_rfl) rfl #[.slice A1 l1.length c1, .int .i64 x14_5, .int .i64 (rd y110 t113)] rfl (by (try simp only [List.map_toArray, List.map_cons, List.map_nil]); first | done | rfl | (simp only [List.length_drop, List.length_take]; rfl)) ?_; (with_reducible refine (laws_at.calls _ _ l1 x14_5 (rd y110 t113) t130 _ ?side1 ?side2 A41.out).mono ?_); (case side1 => repeat (first | exact (Kd.C_below HR1.out HB.out) | (with_reducible refine Kd.C_alloc ?_ _) | (with_reducible refine Kd.C_drewN ?_ _) | (with_reducible refine Kd.C_drew ?_))); (case side2 => exact HC1.out); rintro e w' ⟨rfl, ⟨nd, rfl⟩⟩; refine ⟨_, rfl, ?_⟩; obtain ⟨Ao46, co46, eo46⟩ := Kd.R_slice HO_11.out; subst eo46) | ((with_reducible refine gate_callee (f := 32) rfl ?_); refine goesL_ (some 113) rfl rfl Try.func32 (by kernel_rfl) rfl #[.slice Ao46 x11_5.length co46, .int .i64 t130] rfl (by (try simp only [List.map_toArray, List.map_cons, List.map_nil]); first | done | rfl | (simp only [List.length_drop, List.length_take]; rfl)) ?_; (with_reducible refine (laws_hasInt.calls kj35 _ _ x11_5 t130 false _ ?side1 ?side2 A42.out).mono ?_); (case side1 => repeat (first | exact (Kd.R_reads' HO_11.out).2.2 | (with_reducible refine Kd.C_alloc ?_ _) | (with_reducible refine Kd.C_drewN ?_ _) | (with_reducible refine Kd.C_drew ?_))); (case side2 => exact (Kd.R_reads' HO_11.out).2.1); rintro e w' ⟨rfl, ⟨nd, rfl⟩⟩; refine ⟨_, rfl, ?_⟩) | ((with_reducible refine gate_builtin (b := .append) (xs := #[.tmp 115, .tmp 117]) rfl ?_); (try (refine gate_guard (by rfl) ?_; dsimp only)); at_builtin; refine Kd.R_append (Kd.int .i64) (w0 := w) w.heap.size rfl (.tmp 115) (.tmp 117) 41 3 (.int .i64 0) 8 rfl Try.underlying41 info3 rfl (by decide) (by omega) (.slice Ao46 x11_5.length co46) x11_5 t130 [.int .i64 t130] (fun k_ => some k_ ≠ (u10 : Value).ownBlock) (fun _ => False) rfl rfl ?aP (fun _ hk => hk.elim) ?aF ?aO ?aB ?aS ?aL ?_; (case aP => exact rfl); (case aB => exact (by repeat (first | (with_reducible first | exact HB.out | apply below_alloc | apply pw_below_drewN | apply below_drew1) | exact HB.out))); (case aF => exact (fun k_ hk => Kd.fresh' (Kd.R_lt (by (with_reducible repeat (first | apply Kd.R_alloc | apply Kd.R_drewN | apply Kd.R_drew)); exact HO_10.out)) k_ hk)); (case aO => exact (by (with_reducible repeat (first | apply Kd.R_alloc | apply Kd.R_drewN | apply Kd.R_drew)); exact HO_11.out)); (case aS => exact (below_size (by repeat (first | (with_reducible first | exact HB.out | apply below_alloc | apply pw_below_drewN | apply below_drew1) | exact HB.out)))); (case aL => have := LMc45.out; omega); intro v133 w47 ho hb hg hat; rw [← Ny132.out] at ho; have n0_ := Aside0.mk (Kd.R_after (ok := (fun _ => True)) (by (with_reducible repeat (first | apply Kd.R_alloc | apply Kd.R_drewN | apply Kd.R_drew)); exact Kd.R_mono HO_10.out (fun _ hk => ⟨trivial, hk⟩)) hg hat); have n1_ := Aside0.mk (hb); have n2_ := Aside0.mk (ho); clear HO_10; clear HB; clear HO_11; have HO_10 := n0_; have HB := n1_; have HO134 := n2_; clear n0_ n1_ n2_; clear ho hb hg hat))
                                          go_roundg kj35
                                          case measure => have := HJ2.out; have := HJ10.out; have := HK3.out; have := HJ23.out; have := HK5.out; have := HJ35.out; omega
                                          case rel => exact ⟨(y132), (wrap64 (x14_5 + 1)), (by first | rfl | (simp; done) | (simp [*]; done)), H', ⟨by have := HJ2.out; have := HJ10.out; have := HK3.out; have := HJ23.out; have := HK5.out; have := HJ35.out; omega⟩, ⟨by (with_reducible repeat (first | apply Kd.R_alloc | apply Kd.R_drewN | apply Kd.R_drew)); exact Kd.R_mono HO_10.out (fun _ hk => hk.2)⟩, ⟨by (with_reducible repeat (first | apply Kd.R_alloc | apply Kd.R_drewN | apply Kd.R_drew)); exact HO134.out⟩, ⟨by repeat (first | (with_reducible first | exact HB.out | apply below_alloc | apply pw_below_drewN | apply below_drew1) | exact HB.out)⟩⟩
                                        · rw [if_neg c45] at H
                                          exact absurd H (by simp)
                                    · replace c40 := Bool.eq_false_iff.mpr c40
                                      subst c40
                                      have H1 : (if (x10_3.length : Int) < t115 then (laws_FnQuorums.j6 kj35 l0 (rd y110 t113) t115 t117 x10_3 x11_5 true) else (laws_FnQuorums.j6 kj35 l0 (rd y110 t113) t115 t117 x10_3 x11_5 (decide ((x11_5.length : Int) < t115)))) = some r := by rw [if_neg (show ¬ (false = true) by decide)] at H; exact H
                                      clear H
                                      have H := H1
                                      clear H1
                                      have HC48 := Aside0.mk H
                                      clear H
                                      go_upto_region 22 with (fail)
                                      go_cut [128] (fun v128 wc => ∃ (kq : Nat) (x128_47 : Bool), v128 = .bool x128_47 ∧ Aside0 (laws_FnQuorums.j6 kq l0 (rd y110 t113) t115 t117 x10_3 x11_5 x128_47 = some r) ∧ Aside0 (kq ≤ kj35) ∧ Aside0 (Kd.R (Kd.int .i64) 3 wc w.heap.size (fun k_ => some k_ ≠ (u11 : Value).ownBlock) u10 x10_3) ∧ Aside0 (Kd.R (Kd.int .i64) 3 wc w.heap.size (fun k_ => some k_ ≠ (u10 : Value).ownBlock) u11 x11_5) ∧ Aside0 (Below w.heap.size w wc))
                                      case first =>
                                        have H := HC48.out
                                        clear HC48
                                        by_cases c49 : (x10_3.length : Int) < t115
                                        · rw [if_pos c49] at H
                                          have c49b0 : decide ((x10_3.length : Int) < t115) = true := decide_eq_true c49
                                          clear c49
                                          (first | rw [c49b0] | (simp only [i64_w, i32_w]; rw [c49b0]) | skip)
                                          have H' := Aside0.mk H
                                          clear H
                                          obtain ⟨Ao50, co50, eo50⟩ := Kd.R_slice HO_10.out
                                          subst eo50
                                          go_wp2
                                          go_meet
                                          case rel => exact ⟨_, (true), (by first | rfl | (simp; done) | (simp [*]; done)), H', ⟨by have := HJ2.out; have := HJ10.out; have := HK3.out; have := HJ23.out; have := HK5.out; have := HJ35.out; first | omega | exact Nat.le_refl _⟩, ⟨by (with_reducible repeat (first | apply Kd.R_alloc | apply Kd.R_drewN | apply Kd.R_drew)); exact HO_10.out⟩, ⟨by (with_reducible repeat (first | apply Kd.R_alloc | apply Kd.R_drewN | apply Kd.R_drew)); exact HO_11.out⟩, ⟨by repeat (first | (with_reducible first | exact HB.out | apply below_alloc | apply pw_below_drewN | apply below_drew1) | exact HB.out)⟩⟩
                                        · rw [if_neg c49] at H
                                          have c49b0 : decide ((x10_3.length : Int) < t115) = false := decide_eq_false c49
                                          clear c49
                                          (first | rw [c49b0] | (simp only [i64_w, i32_w]; rw [c49b0]) | skip)
                                          have H' := Aside0.mk H
                                          clear H
                                          obtain ⟨Ao51, co51, eo51⟩ := Kd.R_slice HO_10.out
                                          subst eo51
                                          obtain ⟨Ao52, co52, eo52⟩ := Kd.R_slice HO_11.out
                                          subst eo52
                                          go_wp2
                                          go_meet
                                          case rel => exact ⟨_, (decide ((x11_5.length : Int) < t115)), (by first | rfl | (simp; done) | (simp [*]; done)), H', ⟨by have := HJ2.out; have := HJ10.out; have := HK3.out; have := HJ23.out; have := HK5.out; have := HJ35.out; first | omega | exact Nat.le_refl _⟩, ⟨by (with_reducible repeat (first | apply Kd.R_alloc | apply Kd.R_drewN | apply Kd.R_drew)); exact HO_10.out⟩, ⟨by (with_reducible repeat (first | apply Kd.R_alloc | apply Kd.R_drewN | apply Kd.R_drew)); exact HO_11.out⟩, ⟨by repeat (first | (with_reducible first | exact HB.out | apply below_alloc | apply pw_below_drewN | apply below_drew1) | exact HB.out)⟩⟩
                                      case rest =>
                                        clear HC48
                                        try clear c1
                                        try clear p1
                                        try clear q1
                                        try clear hx1
                                        try clear c2
                                        try clear p2
                                        try clear c3
                                        try clear c4
                                        try clear c4b0
                                        try clear c4b1
                                        try clear c5
                                        try clear p6
                                        try clear c7
                                        try clear c7b0
                                        try clear c8
                                        try clear c8b0
                                        try clear p11
                                        try clear q11
                                        try clear hx11
                                        try clear c12
                                        try clear c15
                                        try clear c15b0
                                        try clear c15b1
                                        try clear c16
                                        try clear c16b0
                                        try clear c16b1
                                        try clear c17
                                        try clear c17b0
                                        try clear c17b1
                                        try clear c18
                                        try clear c18b0
                                        try clear c19
                                        try clear c25
                                        try clear c25b0
                                        try clear c28
                                        try clear c29
                                        try clear c31
                                        try clear c32
                                        try clear c33
                                        try clear c37
                                        try clear c37b0
                                        try clear c40
                                        try clear c43
                                        try clear c45
                                        try clear c49
                                        try clear c49b0
                                        try clear hx114_0
                                        try clear p1
                                        try clear p11
                                        try clear p114
                                        try clear p2
                                        try clear p6
                                        try clear q1
                                        try clear q11
                                        try clear q114
                                        obtain ⟨kq, x128_47, rfl, HA, HJ47, HO_10, HO_11, HB⟩ := hcut
                                        cases kq with
                                        | zero => exact absurd HA.out (by simp [laws_FnQuorums.j6])
                                        | succ kj47 =>
                                          have H := HA.out
                                          clear HA
                                          simp only [laws_FnQuorums.j6] at H
                                          by_cases c53 : x128_47 = true
                                          · subst c53
                                            have H1 : (some true) = some r := by rw [if_pos rfl] at H; exact H
                                            clear H
                                            have H := H1
                                            clear H1
                                            obtain rfl := Option.some.inj H
                                            go_wp2
                                            go_ret
                                            exact ⟨by first | rfl | (simp [errW_none, errW_some] <;> rfl) | (simp [*, errW_none, errW_some] <;> rfl), by repeat (first | (with_reducible first | exact HB.out | apply below_alloc | apply pw_below_drewN | apply below_drew1) | exact HB.out)⟩
                                          · replace c53 := Bool.eq_false_iff.mpr c53
                                            subst c53
                                            have H1 : (laws_FnQuorums.l2 kj47 l0 (rd y110 t113) t115 t117 x10_3 x11_5 0 0) = some r := by rw [if_neg (show ¬ (false = true) by decide)] at H; exact H
                                            clear H
                                            have H := H1
                                            clear H1
                                            have H' := Aside0.mk H
                                            clear H
                                            go_wp2
                                            go_loopg [16, 17] kj47 (fun kq v16 v17 w' => ∃ (x16_8 : Int) (x17_8 : Int), v16 = .int .i64 x16_8 ∧ v17 = .int .i64 x17_8 ∧ Aside0 (laws_FnQuorums.l2 kq l0 (rd y110 t113) t115 t117 x10_3 x11_5 x16_8 x17_8 = some r) ∧ Aside0 (kq ≤ kj47) ∧ Aside0 (Kd.R (Kd.int .i64) 3 w' w.heap.size (fun k_ => some k_ ≠ (u11 : Value).ownBlock) u10 x10_3) ∧ Aside0 (Kd.R (Kd.int .i64) 3 w' w.heap.size (fun k_ => some k_ ≠ (u10 : Value).ownBlock) u11 x11_5) ∧ Aside0 (Below w.heap.size w w'))
                                            case atStart => exact ⟨(0), (0), (by first | rfl | (simp; done) | (simp [*]; done)), (by first | rfl | (simp; done) | (simp [*]; done)), H', ⟨Nat.le_refl _⟩, ⟨by (with_reducible repeat (first | apply Kd.R_alloc | apply Kd.R_drewN | apply Kd.R_drew)); exact HO_10.out⟩, ⟨by (with_reducible repeat (first | apply Kd.R_alloc | apply Kd.R_drewN | apply Kd.R_drew)); exact HO_11.out⟩, ⟨by repeat (first | (with_reducible first | exact HB.out | apply below_alloc | apply pw_below_drewN | apply below_drew1) | exact HB.out)⟩⟩
                                            case round =>
                                              clear H'
                                              try clear c1
                                              try clear p1
                                              try clear q1
                                              try clear hx1
                                              try clear c2
                                              try clear p2
                                              try clear c3
                                              try clear c4
                                              try clear c4b0
                                              try clear c4b1
                                              try clear c5
                                              try clear p6
                                              try clear c7
                                              try clear c7b0
                                              try clear c8
                                              try clear c8b0
                                              try clear p11
                                              try clear q11
                                              try clear hx11
                                              try clear c12
                                              try clear c15
                                              try clear c15b0
                                              try clear c15b1
                                              try clear c16
                                              try clear c16b0
                                              try clear c16b1
                                              try clear c17
                                              try clear c17b0
                                              try clear c17b1
                                              try clear c18
                                              try clear c18b0
                                              try clear c19
                                              try clear c25
                                              try clear c25b0
                                              try clear c28
                                              try clear c29
                                              try clear c31
                                              try clear c32
                                              try clear c33
                                              try clear c37
                                              try clear c37b0
                                              try clear c40
                                              try clear c43
                                              try clear c45
                                              try clear c49
                                              try clear c49b0
                                              try clear c53
                                              try clear hx114_0
                                              try clear p1
                                              try clear p11
                                              try clear p114
                                              try clear p2
                                              try clear p6
                                              try clear q1
                                              try clear q11
                                              try clear q114
                                              obtain ⟨x16_8, x17_8, rfl, rfl, HA, HK8, HO_10, HO_11, HB⟩ := hrel
                                              cases gk with
                                              | zero => exact absurd HA.out (by simp [laws_FnQuorums.l2])
                                              | succ k8 =>
                                                have H := HA.out
                                                clear HA
                                                simp only [laws_FnQuorums.l2] at H
                                                by_cases c54 : x17_8 < t115
                                                · rw [if_pos c54] at H
                                                  have c54b0 : decide (x17_8 < t115) = true := decide_eq_true c54
                                                  clear c54
                                                  by_cases c55 : 0 ≤ x17_8
                                                  · rw [if_pos c55] at H
                                                    have c55b0 : decide (0 ≤ x17_8) = true := decide_eq_true c55
                                                    clear c55
                                                    by_cases c56 : x17_8 < (x10_3.length : Int)
                                                    · rw [if_pos c56] at H
                                                      have c56b0 : decide (x17_8 < (x10_3.length : Int)) = true := decide_eq_true c56
                                                      clear c56
                                                      replace H := Option.bind_eq_some_iff.mp H
                                                      obtain ⟨t136, A570, H⟩ := H
                                                      replace H : (if t136 = true then (laws_FnQuorums.l2 k8 l0 (rd y110 t113) t115 t117 x10_3 x11_5 (wrap64 (x16_8 + 1)) (wrap64 (x17_8 + 1))) else (laws_FnQuorums.l2 k8 l0 (rd y110 t113) t115 t117 x10_3 x11_5 x16_8 (wrap64 (x17_8 + 1)))) = some r := H
                                                      have A57 := Aside0.mk A570
                                                      clear A570
                                                      by_cases c58 : t136 = true
                                                      · subst c58
                                                        have H1 : (laws_FnQuorums.l2 k8 l0 (rd y110 t113) t115 t117 x10_3 x11_5 (wrap64 (x16_8 + 1)) (wrap64 (x17_8 + 1))) = some r := by rw [if_pos rfl] at H; exact H
                                                        clear H
                                                        have H := H1
                                                        clear H1
                                                        have H' := Aside0.mk H
                                                        clear H
                                                        obtain ⟨Ao59, co59, eo59⟩ := Kd.R_slice HO_10.out
                                                        subst eo59
                                                        have p135 : 0 ≤ (x17_8 : Int) := of_decide_eq_true (by first | (with_reducible assumption) | assumption)
                                                        have q135 : x17_8 < (x10_3.length : Int) := of_decide_eq_true (by first | (with_reducible assumption) | assumption)
                                                        obtain ⟨ad135, e135, hx135_0⟩ := Kd.at_int (Kd.R_reads' HO_10.out).2.2 x17_8 p135 q135
                                                        cases e135
                                                        replace p135 := eq_true p135
                                                        replace q135 := eq_true q135
                                                        obtain ⟨Ao60, co60, eo60⟩ := Kd.R_slice HO_11.out
                                                        subst eo60
                                                        go_wp2_with (first | ((with_reducible refine gate_callee (f := 32) rfl ?_); refine goesL_ (some 139) rfl rfl Try.func32 (by kernel_rfl) rfl #[.slice Ao60 x11_5.length co60, .int .i64 (rd x10_3 x17_8)] rfl (by (try simp only [List.map_toArray, List.map_cons, List.map_nil]); first | done | rfl | (simp only [List.length_drop, List.length_take]; rfl)) ?_; (with_reducible refine (laws_hasInt.calls k8 _ _ x11_5 (rd x10_3 x17_8) true _ ?side1 ?side2 A57.out).mono ?_); (case side1 => repeat (first | exact (Kd.R_reads' HO_11.out).2.2 | (with_reducible refine Kd.C_alloc ?_ _) | (with_reducible refine Kd.C_drewN ?_ _) | (with_reducible refine Kd.C_drew ?_))); (case side2 => exact (Kd.R_reads' HO_11.out).2.1); rintro e w' ⟨rfl, ⟨nd, rfl⟩⟩; refine ⟨_, rfl, ?_⟩))
                                                        go_roundg k8
                                                        case measure => have := HJ2.out; have := HJ10.out; have := HK3.out; have := HJ23.out; have := HK5.out; have := HJ35.out; have := HJ47.out; have := HK8.out; omega
                                                        case rel => exact ⟨(wrap64 (x16_8 + 1)), (wrap64 (x17_8 + 1)), (by first | rfl | (simp; done) | (simp [*]; done)), (by first | rfl | (simp; done) | (simp [*]; done)), H', ⟨by have := HJ2.out; have := HJ10.out; have := HK3.out; have := HJ23.out; have := HK5.out; have := HJ35.out; have := HJ47.out; have := HK8.out; omega⟩, ⟨by (with_reducible repeat (first | apply Kd.R_alloc | apply Kd.R_drewN | apply Kd.R_drew)); exact HO_10.out⟩, ⟨by (with_reducible repeat (first | apply Kd.R_alloc | apply Kd.R_drewN | apply Kd.R_drew)); exact HO_11.out⟩, ⟨by repeat (first | (with_reducible first | exact HB.out | apply below_alloc | apply pw_below_drewN | apply below_drew1) | exact HB.out)⟩⟩
                                                      · replace c58 := Bool.eq_false_iff.mpr c58
                                                        subst c58
                                                        have H1 : (laws_FnQuorums.l2 k8 l0 (rd y110 t113) t115 t117 x10_3 x11_5 x16_8 (wrap64 (x17_8 + 1))) = some r := by rw [if_neg (show ¬ (false = true) by decide)] at H; exact H
                                                        clear H
                                                        have H := H1
                                                        clear H1
                                                        have H' := Aside0.mk H
                                                        clear H
                                                        obtain ⟨Ao61, co61, eo61⟩ := Kd.R_slice HO_10.out
                                                        subst eo61
                                                        have p135 : 0 ≤ (x17_8 : Int) := of_decide_eq_true (by first | (with_reducible assumption) | assumption)
                                                        have q135 : x17_8 < (x10_3.length : Int) := of_decide_eq_true (by first | (with_reducible assumption) | assumption)
                                                        obtain ⟨ad135, e135, hx135_0⟩ := Kd.at_int (Kd.R_reads' HO_10.out).2.2 x17_8 p135 q135
                                                        cases e135
                                                        replace p135 := eq_true p135
                                                        replace q135 := eq_true q135
                                                        obtain ⟨Ao62, co62, eo62⟩ := Kd.R_slice HO_11.out
                                                        subst eo62
                                                        go_wp2_with (first | ((with_reducible refine gate_callee (f := 32) rfl ?_); refine goesL_ (some 139) rfl rfl Try.func32 (by kernel_rfl) rfl #[.slice Ao62 x11_5.length co62, .int .i64 (rd x10_3 x17_8)] rfl (by (try simp only [List.map_toArray, List.map_cons, List.map_nil]); first | done | rfl | (simp only [List.length_drop, List.length_take]; rfl)) ?_; (with_reducible refine (laws_hasInt.calls k8 _ _ x11_5 (rd x10_3 x17_8) false _ ?side1 ?side2 A57.out).mono ?_); (case side1 => repeat (first | exact (Kd.R_reads' HO_11.out).2.2 | (with_reducible refine Kd.C_alloc ?_ _) | (with_reducible refine Kd.C_drewN ?_ _) | (with_reducible refine Kd.C_drew ?_))); (case side2 => exact (Kd.R_reads' HO_11.out).2.1); rintro e w' ⟨rfl, ⟨nd, rfl⟩⟩; refine ⟨_, rfl, ?_⟩))
                                                        go_roundg k8
                                                        case measure => have := HJ2.out; have := HJ10.out; have := HK3.out; have := HJ23.out; have := HK5.out; have := HJ35.out; have := HJ47.out; have := HK8.out; omega
                                                        case rel => exact ⟨(x16_8), (wrap64 (x17_8 + 1)), (by first | rfl | (simp; done) | (simp [*]; done)), (by first | rfl | (simp; done) | (simp [*]; done)), H', ⟨by have := HJ2.out; have := HJ10.out; have := HK3.out; have := HJ23.out; have := HK5.out; have := HJ35.out; have := HJ47.out; have := HK8.out; omega⟩, ⟨by (with_reducible repeat (first | apply Kd.R_alloc | apply Kd.R_drewN | apply Kd.R_drew)); exact HO_10.out⟩, ⟨by (with_reducible repeat (first | apply Kd.R_alloc | apply Kd.R_drewN | apply Kd.R_drew)); exact HO_11.out⟩, ⟨by repeat (first | (with_reducible first | exact HB.out | apply below_alloc | apply pw_below_drewN | apply below_drew1) | exact HB.out)⟩⟩
                                                    · rw [if_neg c56] at H
                                                      exact absurd H (by simp)
                                                  · rw [if_neg c55] at H
                                                    exact absurd H (by simp)
                                                · rw [if_neg c54] at H
                                                  have c54b0 : decide (x17_8 < t115) = false := decide_eq_false c54
                                                  clear c54
                                                  replace H := Option.bind_eq_some_iff.mp H
                                                  obtain ⟨t137, A630, H⟩ := H
                                                  replace H : ((impl_PrimaryOf.f t137 (rd y110 t113)).bind fun bt138 => (if x16_8 ≥ (wrap64 (t117 + 1)) then (if bt138.2 = 0 then (if (rd y110 t113) = 0 then (none) else (some (bt138.1 == (Int.tmod t137 (rd y110 t113))))) else (some false)) else (some false))) = some r := H
                                                  have A63 := Aside0.mk A630
                                                  clear A630
                                                  replace H := Option.bind_eq_some_iff.mp H
                                                  obtain ⟨⟨t138, t139⟩, A640, H⟩ := H
                                                  replace H : (if x16_8 ≥ (wrap64 (t117 + 1)) then (if t139 = 0 then (if (rd y110 t113) = 0 then (none) else (some (t138 == (Int.tmod t137 (rd y110 t113))))) else (some false)) else (some false)) = some r := H
                                                  have A64 := Aside0.mk A640
                                                  clear A640
                                                  by_cases c65 : x16_8 ≥ (wrap64 (t117 + 1))
                                                  · rw [if_pos c65] at H
                                                    have c65b0 : decide ((wrap64 (t117 + 1)) ≤ x16_8) = true := decide_eq_true c65
                                                    clear c65
                                                    by_cases c66 : t139 = 0
                                                    · rw [if_pos c66] at H
                                                      have c66b0 : (t139 == 0) = true := beq_iff_eq.mpr c66
                                                      have c66b1 : (t139 != 0) = false := bne_eq_false_iff_eq.mpr c66
                                                      clear c66
                                                      by_cases c67 : (rd y110 t113) = 0
                                                      · rw [if_pos c67] at H
                                                        exact absurd H (by simp)
                                                      · rw [if_neg c67] at H
                                                        have c67b0 : ((rd y110 t113) == 0) = false := beq_eq_false_iff_ne.mpr c67
                                                        have c67b1 : ((rd y110 t113) != 0) = true := bne_iff_ne.mpr c67
                                                        obtain rfl := Option.some.inj H
                                                        go_wp2_with (first | ((with_reducible refine gate_callee (f := 19) rfl ?_); refine goesL_ (some 143) rfl rfl Try.func19 (by kernel_rfl) rfl #[.slice A0 l0.length c0, .int .i64 0, .int .i64 21] rfl (by (try simp only [List.map_toArray, List.map_cons, List.map_nil]); first | done | rfl | (simp only [List.length_drop, List.length_take]; rfl)) ?_; (with_reducible refine (laws_at.calls _ _ l0 0 21 t137 _ ?side1 ?side2 A63.out).mono ?_); (case side1 => repeat (first | exact (Kd.C_below HR0.out HB.out) | (with_reducible refine Kd.C_alloc ?_ _) | (with_reducible refine Kd.C_drewN ?_ _) | (with_reducible refine Kd.C_drew ?_))); (case side2 => exact HC0.out); rintro e w' ⟨rfl, ⟨nd, rfl⟩⟩; refine ⟨_, rfl, ?_⟩) | ((with_reducible refine gate_callee (f := 27) rfl ?_); refine goesL_ (some 147) rfl rfl Try.func27 (by kernel_rfl) rfl #[.int .i64 t137, .int .i64 (rd y110 t113)] rfl (by (try simp only [List.map_toArray, List.map_cons, List.map_nil]); first | done | rfl | (simp only [List.length_drop, List.length_take]; rfl)) ?_; (with_reducible refine (impl_PrimaryOf.calls t137 (rd y110 t113) t138 t139 _ A64.out).mono ?_); rintro e w' ⟨rfl, ⟨nd, rfl⟩⟩; refine ⟨_, rfl, ?_⟩))
                                                        go_ret
                                                        exact ⟨by first | rfl | (simp [errW_none, errW_some] <;> rfl) | (simp [*, errW_none, errW_some] <;> rfl), by repeat (first | (with_reducible first | exact HB.out | apply below_alloc | apply pw_below_drewN | apply below_drew1) | exact HB.out)⟩
                                                    · rw [if_neg c66] at H
                                                      have c66b0 : (t139 == 0) = false := beq_eq_false_iff_ne.mpr c66
                                                      have c66b1 : (t139 != 0) = true := bne_iff_ne.mpr c66
                                                      obtain rfl := Option.some.inj H
                                                      go_wp2_with (first | ((with_reducible refine gate_callee (f := 19) rfl ?_); refine goesL_ (some 143) rfl rfl Try.func19 (by kernel_rfl) rfl #[.slice A0 l0.length c0, .int .i64 0, .int .i64 21] rfl (by (try simp only [List.map_toArray, List.map_cons, List.map_nil]); first | done | rfl | (simp only [List.length_drop, List.length_take]; rfl)) ?_; (with_reducible refine (laws_at.calls _ _ l0 0 21 t137 _ ?side1 ?side2 A63.out).mono ?_); (case side1 => repeat (first | exact (Kd.C_below HR0.out HB.out) | (with_reducible refine Kd.C_alloc ?_ _) | (with_reducible refine Kd.C_drewN ?_ _) | (with_reducible refine Kd.C_drew ?_))); (case side2 => exact HC0.out); rintro e w' ⟨rfl, ⟨nd, rfl⟩⟩; refine ⟨_, rfl, ?_⟩) | ((with_reducible refine gate_callee (f := 27) rfl ?_); refine goesL_ (some 147) rfl rfl Try.func27 (by kernel_rfl) rfl #[.int .i64 t137, .int .i64 (rd y110 t113)] rfl (by (try simp only [List.map_toArray, List.map_cons, List.map_nil]); first | done | rfl | (simp only [List.length_drop, List.length_take]; rfl)) ?_; (with_reducible refine (impl_PrimaryOf.calls t137 (rd y110 t113) t138 t139 _ A64.out).mono ?_); rintro e w' ⟨rfl, ⟨nd, rfl⟩⟩; refine ⟨_, rfl, ?_⟩))
                                                      go_ret
                                                      exact ⟨by first | rfl | (simp [errW_none, errW_some] <;> rfl) | (simp [*, errW_none, errW_some] <;> rfl), by repeat (first | (with_reducible first | exact HB.out | apply below_alloc | apply pw_below_drewN | apply below_drew1) | exact HB.out)⟩
                                                  · rw [if_neg c65] at H
                                                    have c65b0 : decide ((wrap64 (t117 + 1)) ≤ x16_8) = false := decide_eq_false c65
                                                    clear c65
                                                    obtain rfl := Option.some.inj H
                                                    go_wp2_with (first | ((with_reducible refine gate_callee (f := 19) rfl ?_); refine goesL_ (some 143) rfl rfl Try.func19 (by kernel_rfl) rfl #[.slice A0 l0.length c0, .int .i64 0, .int .i64 21] rfl (by (try simp only [List.map_toArray, List.map_cons, List.map_nil]); first | done | rfl | (simp only [List.length_drop, List.length_take]; rfl)) ?_; (with_reducible refine (laws_at.calls _ _ l0 0 21 t137 _ ?side1 ?side2 A63.out).mono ?_); (case side1 => repeat (first | exact (Kd.C_below HR0.out HB.out) | (with_reducible refine Kd.C_alloc ?_ _) | (with_reducible refine Kd.C_drewN ?_ _) | (with_reducible refine Kd.C_drew ?_))); (case side2 => exact HC0.out); rintro e w' ⟨rfl, ⟨nd, rfl⟩⟩; refine ⟨_, rfl, ?_⟩) | ((with_reducible refine gate_callee (f := 27) rfl ?_); refine goesL_ (some 147) rfl rfl Try.func27 (by kernel_rfl) rfl #[.int .i64 t137, .int .i64 (rd y110 t113)] rfl (by (try simp only [List.map_toArray, List.map_cons, List.map_nil]); first | done | rfl | (simp only [List.length_drop, List.length_take]; rfl)) ?_; (with_reducible refine (impl_PrimaryOf.calls t137 (rd y110 t113) t138 t139 _ A64.out).mono ?_); rintro e w' ⟨rfl, ⟨nd, rfl⟩⟩; refine ⟨_, rfl, ?_⟩))
                                                    go_ret
                                                    exact ⟨by first | rfl | (simp [errW_none, errW_some] <;> rfl) | (simp [*, errW_none, errW_some] <;> rfl), by repeat (first | (with_reducible first | exact HB.out | apply below_alloc | apply pw_below_drewN | apply below_drew1) | exact HB.out)⟩
          · rw [if_neg c8] at H
            exact absurd H (by simp)
        · rw [if_neg c7] at H
          exact absurd H (by simp)

/-- THE ONE PURE STATEMENT of laws_FnQuorums: yours. -/
def laws_FnQuorums.Pure : Prop := ∀ (l0 : List Int) (l1 : List Int), l0.length ≤ maxLen → l0.length * 1 ≤ 140737488351232 → (∀ x ∈ l0, (Lit.int .u8 x).wf = true) → l1.length ≤ maxLen → l1.length * 1 ≤ 140737488351232 → (∀ x ∈ l1, (Lit.int .u8 x).wf = true) → ∃ k, laws_FnQuorums.f k l0 l1 = some true
theorem laws_FnQuorums.walk (P : laws_FnQuorums.Pure) (a0 : Option Addr) (len0 cap0 : Nat) (z0 : List Int) (a1 : Option Addr) (len1 cap1 : Nat) (z1 : List Int) (w : World) (w0 : (a0 = none ∧ len0 = 0 ∧ cap0 = 0 ∧ z0 = []) ∨ ∃ x, a0 = some x ∧ len0 ≤ cap0 ∧ cap0 ≤ maxLen ∧ z0.length = cap0 ∧ (∀ i, i < z0.length → w.cell? (x.add i) = some (.int .u8 (z0.getD i 0))) ∧ ∀ n ∈ z0, (Lit.int .u8 n).wf = true) (y0 : len0 * 1 ≤ 140737488351232) (w1 : (a1 = none ∧ len1 = 0 ∧ cap1 = 0 ∧ z1 = []) ∨ ∃ x, a1 = some x ∧ len1 ≤ cap1 ∧ cap1 ≤ maxLen ∧ z1.length = cap1 ∧ (∀ i, i < z1.length → w.cell? (x.add i) = some (.int .u8 (z1.getD i 0))) ∧ ∀ n ∈ z1, (Lit.int .u8 n).wf = true) (y1 : len1 * 1 ≤ 140737488351232) :
    Calls Try.prog 12 #[.slice a0 len0 cap0, .slice a1 len1 cap1] w fun e w' => e = .returned (.bool true) ∧ Below w.heap.size w w' := by
  obtain ⟨l0, rfl, hr0, hm0, hw0, hc0⟩ := ReadsInt.ofRowC w0
  obtain ⟨l1, rfl, hr1, hm1, hw1, hc1⟩ := ReadsInt.ofRowC w1
  obtain ⟨k, h⟩ := P l0 l1 hm0 y0 hw0 hm1 y1 hw1
  refine (laws_FnQuorums.calls k _ _ l0 _ _ l1 true w (Kd.C_of_reads (d := (0 : Int)) (h1 := fun _ => rfl) hr0) hc0 (Kd.C_of_reads (d := (0 : Int)) (h1 := fun _ => rfl) hr1) hc1 h).mono ?_
  rintro e w' ⟨rfl, hd⟩
  exact ⟨rfl, hd⟩

end Go.Proofs.Ytngeekijgphnjaa.PFnQuorums
