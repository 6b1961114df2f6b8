/- The statement FnExactSignNext, out of its pure law and the walk of its functions; no condition. -/
import Derived.Test.YtgknilganicofaaDoorRows
import Derived.Test.YtgknilganicofaaDoorPFnExactSignNextx9
import Derived.Test.YtgknilganicofaaDoorPureFnExactSignNext
import Derived.Test.YtgknilganicofaaDoorOpens
import Derived.WalkKit
import Derived.ProofKit
import Derived.OpenShut
import Derived.ShutString
import Derived.ChangeOld
import Derived.Below
import Derived.SizedLaws
import Derived.OpenVars
import Derived.ChangeVars
import Derived.LaidMore
import Derived.Stop.Joined
import Derived.SevenTiedAt
import Derived.Test.YtgknilganicofaaDoorTie
import Derived.Test.YtgknilganicofaaDoorCards
import Derived.Test.YtgknilganicofaaDoorGlob
namespace Go.Proofs.YtgknilganicofaaDoor.fnExactSignNext
open Go.ChangeShapes Go.WideShapes Go.ChangeAt Go.RowKit Go.Proofs.YtgknilganicofaaDoorO Go.Proofs.YtgknilganicofaaDoor.PFnExactSignNext Go.Proofs.YtgknilganicofaaDoorV.PrintWords Go.Proofs.YtgknilganicofaaDoor.Sha
open Go.ChangeMaps (open_string shut_string)
set_option linter.unusedVariables false
theorem own : ownKnob Tryd.prog.godebug = none := by kernel_rfl
theorem laidOut : laidOutB Tryd.prog = true := by kernel_rfl
set_option maxRecDepth 100000 in
theorem lifted (os : Os) (started : os.Started) (H : Type) (enc : TypeId × Value → H) :
    ReturnsInHanded {} Tryd.checked os 14 .any (fun w args => (Rows.fnExactSignNextSpec.pre enc Tryd.prog Tryd.f14 Rows.fnExactSignNextRow.domain false w args ∧ laidMetH Tryd.prog Glob.L w) ∧ sizedMet enc Tryd.prog Tryd.f14 (OpenSpec.ofChange Rows.fnExactSignNextSpec) false w args) (Rows.fnExactSignNextSpec.post enc Tryd.prog Tryd.f14 false true false false) := by
  refine returnsInHanded_of_change_and (C := Tryd.checked) (X := fun w _ => laidMetH Tryd.prog Glob.L w) (fun _ _ _ hh h => h.of_heap hh) own started (by kernel_rfl) Tryd.func14
    (ChangeSpec.witness_shaped (enc := enc) (C := Tryd.checked) (os := os) (X := fun w _ => laidMetH Tryd.prog Glob.L w) false (World.doorLaid Tryd.prog 14 os) #[.agg #[.string ByteArray.empty, .int .i64 0], .string ByteArray.empty] 8 rfl (World.shaped_of_RefB (by kernel_rfl) (by kernel_rfl)) (by kernel_rfl) (by kernel_rfl) (by kernel_rfl) (Glob.door_met os _)) ?_
  intro W base args ds gs before hval0 hW hcnd hsz0 hL _
  have hG : GlobA W := Glob.glob_of hL
  have hval : ∀ (j : Nat) t v, Tryd.f14.params[j]? = some t → args[j]? = some v → Value.okWide Tryd.prog W .any base t v := hval0
  have hW' := hW
  obtain ⟨p, q, hA0, hV, rfl, hfz, hnd⟩ := hW
  have hA : DataW.TrodAll enc Tryd.prog W 0 (fun _ => true) true Tryd.f14.params.toList args.toList ds p := hA0
  rw [Tryd.params14] at hA hval
  obtain ⟨v0, vs0, d0, ds0, p0, q0, hargs, rfl, rfl, h0, r0⟩ := trodAll_cons hA
  obtain ⟨v1, vs1, d1, ds1, p1, q1, rfl, rfl, rfl, h1, r1⟩ := trodAll_cons r0
  obtain ⟨rfl, rfl, rfl⟩ := trodAll_nil r1
  obtain rfl : args = #[v0, v1] := by cases args; simp_all
  obtain ⟨_, _, _, _, dv, _, hgs, _⟩ := trodVars_one (show DataW.TrodVars enc Tryd.prog W (fun _ => true) ["loop.example/g00292/impl.roundWords"] gs q from hV)
  subst hgs
  have k0 := h0
  have lt0 : ∀ x ∈ p0, x.block < W.heap.size := by obtain ⟨m, hm⟩ := k0; exact DataW.trod_lt m _ _ _ hm
  obtain ⟨⟨x0_0, x0_1⟩, ⟨_, _, e0, rfl, rfl⟩, ⟨gx0_0, gx0_1⟩⟩ := Opn.at_ (Opn.struct Tryd.underlying60 (OpnF.cons (Opn.string Tryd.underlying9) rfl (by kernel_rfl) rfl (OpnF.one (Opn.int Tryd.underlying3) rfl (by kernel_rfl))) (by kernel_rfl)) h0
  obtain rfl : v0 = .agg #[.string x0_0, .int .i64 x0_1] := agg_of Tryd.underlying60 (hval 0 60 v0 rfl rfl) e0
  have k1 := h1
  have lt1 : ∀ x ∈ p1, x.block < W.heap.size := by obtain ⟨m, hm⟩ := k1; exact DataW.trod_lt m _ _ _ hm
  obtain ⟨x1, rfl, rfl, rfl, gx1⟩ := open_string Tryd.underlying9 (hval 1 9 v1 rfl rfl) h1
  clear hA0 hval0 hsz0
  obtain ⟨k, hk⟩ := Pure.FnExactSignNext x0_0 x0_1 x1 gx0_0 gx0_1 gx1
  refine (laws_FnExactSignNext.calls k x0_0 x0_1 x1 true W  hG hk).mono fun e W' ⟨he, bel⟩ => ?_
  subst he
  exact ⟨_, rfl, _, _, _, [], _, _, hW', trodAll_mk1 (shut_bool Tryd.underlying4 _), (trodAll_cons_mk (Below.trod laidOut (by kernel_rfl) (of_decide_eq_true (by kernel_rfl)) k0 bel lt0) (trodAll_cons_mk (Below.trod laidOut (by kernel_rfl) (of_decide_eq_true (by kernel_rfl)) k1 bel lt1) trodAll_mk0)), Below.trodVars laidOut bel (by kernel_rfl) hV, bel.frame _, fun h => by cases h⟩
theorem over : Rows.fnExactSignNextRow.holds Tryd.pinned (OpenSpec.ofChange Rows.fnExactSignNextSpec) :=
  OpenClaim.holds_of_wide 14 Tryd.f14 rfl rfl rfl rfl rfl rfl rfl ⟨rfl, rfl, rfl, rfl, rfl⟩ rfl rfl rfl rfl rfl (by kernel_rfl) Tryd.func14 (by kernel_rfl)
    (of_decide_eq_true (by kernel_rfl)) (by unfold Func.isWrapper; first | (rw [if_pos (by decide +kernel)]; kernel_rfl) | (rw [if_neg (by decide +kernel)]; exact ⟨rfl, rfl⟩))
    (fun os started H enc _ => lifted os started H enc)
theorem card : Rows.FnExactSignNextCardSaid :=
  Claim7.holds_tied_plain_at .later [] [.data] true (true, "9d6af0a908e6099cdeb097d0880774c0520c63795da99e62befc09a2ccf02f7d") false
    over (fun _ h => by cases h) (by kernel_rfl) (fun _ h => by cases h) fnExactSignNext_row_tie rfl ⟨rfl, rfl⟩ (by kernel_rfl) rfl
    (fun f fn hf hfn => by
      obtain rfl : f = 14 := Option.some.inj ((show Tryd.prog.funcNamed "loop.example/g00292/laws.FnExactSignNext" = some 14 by kernel_rfl).symm.trans hf) |>.symm
      obtain rfl : fn = Tryd.f14 := (Option.some.inj (Tryd.func14.symm.trans hfn)).symm
      exact ⟨by kernel_rfl, fun j t ht => by
        rw [Tryd.params14] at ht
        have hm : t ∈ [60, 9] := by simpa using Array.mem_of_getElem? ht
        have hall : ([60, 9].all fun u => !Tryd.prog.wantsStandIn u) = true := by kernel_rfl
        exact (show Tryd.prog.wantsStandIn t = false by simpa using List.all_eq_true.1 hall t hm)⟩)
    (by kernel_rfl)
theorem proved : Rows.FnExactSignNextCardSaid := card
end Go.Proofs.YtgknilganicofaaDoor.fnExactSignNext
namespace Go.Proofs.YtgknilganicofaaDoor
/-- The row, under a short name, for the claim. -/
theorem fnExactSignNext_card_holds : Rows.FnExactSignNextCardSaid := fnExactSignNext.proved
#print axioms fnExactSignNext_card_holds
end Go.Proofs.YtgknilganicofaaDoor
