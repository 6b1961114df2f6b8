/- The statement FnExactMessageSigned, out of its pure law and the walk of its functions; no condition. -/
import Derived.Test.YtgknilganicofaaDoorRows
import Derived.Test.YtgknilganicofaaDoorPFnExactMessageSignedx7
import Derived.Test.YtgknilganicofaaDoorPureFnExactMessageSigned
import Derived.Test.YtgknilganicofaaDoorOpens
import Derived.WalkKit
import Derived.ProofKit
import Derived.OpenShut
import Derived.ShutString
import Derived.ChangeOld
import Derived.Below
import Derived.SizedLaws
import Derived.OpenVars
import Derived.ChangeVars
import Derived.LaidMore
import Derived.Stop.Joined
import Derived.SevenTiedAt
import Derived.Test.YtgknilganicofaaDoorTie
import Derived.Test.YtgknilganicofaaDoorCards
import Derived.Test.YtgknilganicofaaDoorGlob
namespace Go.Proofs.YtgknilganicofaaDoor.fnExactMessageSigned
open Go.ChangeShapes Go.WideShapes Go.ChangeAt Go.RowKit Go.Proofs.YtgknilganicofaaDoorO Go.Proofs.YtgknilganicofaaDoor.PFnExactMessageSigned Go.Proofs.YtgknilganicofaaDoorV.PrintWords Go.Proofs.YtgknilganicofaaDoor.Sha
open Go.ChangeMaps (open_string shut_string)
set_option linter.unusedVariables false
theorem own : ownKnob Tryd.prog.godebug = none := by kernel_rfl
theorem laidOut : laidOutB Tryd.prog = true := by kernel_rfl
set_option maxRecDepth 100000 in
theorem lifted (os : Os) (started : os.Started) (H : Type) (enc : TypeId × Value → H) :
    ReturnsInHanded {} Tryd.checked os 9 .any (fun w args => (Rows.fnExactMessageSignedSpec.pre enc Tryd.prog Tryd.f9 Rows.fnExactMessageSignedRow.domain false w args ∧ laidMetH Tryd.prog Glob.L w) ∧ sizedMet enc Tryd.prog Tryd.f9 (OpenSpec.ofChange Rows.fnExactMessageSignedSpec) false w args) (Rows.fnExactMessageSignedSpec.post enc Tryd.prog Tryd.f9 false true false false) := by
  refine returnsInHanded_of_change_and (C := Tryd.checked) (X := fun w _ => laidMetH Tryd.prog Glob.L w) (fun _ _ _ hh h => h.of_heap hh) own started (by kernel_rfl) Tryd.func9
    (ChangeSpec.witness_shaped (enc := enc) (C := Tryd.checked) (os := os) (X := fun w _ => laidMetH Tryd.prog Glob.L w) false (World.doorLaid Tryd.prog 14 os) #[.int .i64 0, .agg #[.int .i64 0, .int .i64 0, .int .i64 0, .int .i64 0, .string ByteArray.empty, .string ByteArray.empty, .string ByteArray.empty]] 8 rfl (World.shaped_of_RefB (by kernel_rfl) (by kernel_rfl)) (by kernel_rfl) (by kernel_rfl) (by kernel_rfl) (Glob.door_met os _)) ?_
  intro W base args ds gs before hval0 hW hcnd hsz0 hL _
  have hG : GlobA W := Glob.glob_of hL
  have hval : ∀ (j : Nat) t v, Tryd.f9.params[j]? = some t → args[j]? = some v → Value.okWide Tryd.prog W .any base t v := hval0
  have hW' := hW
  obtain ⟨p, q, hA0, hV, rfl, hfz, hnd⟩ := hW
  have hA : DataW.TrodAll enc Tryd.prog W 0 (fun _ => true) true Tryd.f9.params.toList args.toList ds p := hA0
  rw [Tryd.params9] at hA hval
  obtain ⟨v0, vs0, d0, ds0, p0, q0, hargs, rfl, rfl, h0, r0⟩ := trodAll_cons hA
  obtain ⟨v1, vs1, d1, ds1, p1, q1, rfl, rfl, rfl, h1, r1⟩ := trodAll_cons r0
  obtain ⟨rfl, rfl, rfl⟩ := trodAll_nil r1
  obtain rfl : args = #[v0, v1] := by cases args; simp_all
  obtain ⟨_, _, _, _, dv, _, hgs, _⟩ := trodVars_one (show DataW.TrodVars enc Tryd.prog W (fun _ => true) ["loop.example/g00292/impl.roundWords"] gs q from hV)
  subst hgs
  have k0 := h0
  have lt0 : ∀ x ∈ p0, x.block < W.heap.size := by obtain ⟨m, hm⟩ := k0; exact DataW.trod_lt m _ _ _ hm
  obtain ⟨x0, rfl, rfl, rfl, gx0⟩ := open_int Tryd.underlying3 (hval 0 3 v0 rfl rfl) h0
  have k1 := h1
  have lt1 : ∀ x ∈ p1, x.block < W.heap.size := by obtain ⟨m, hm⟩ := k1; exact DataW.trod_lt m _ _ _ hm
  obtain ⟨⟨x1_0, ⟨x1_1, ⟨x1_2, ⟨x1_3, ⟨x1_4, ⟨x1_5, x1_6⟩⟩⟩⟩⟩⟩, ⟨_, _, e1, rfl, ⟨_, _, rfl, rfl, ⟨_, _, rfl, rfl, ⟨_, _, rfl, rfl, ⟨_, _, rfl, rfl, ⟨_, _, rfl, rfl, rfl⟩⟩⟩⟩⟩⟩, ⟨gx1_0, ⟨gx1_1, ⟨gx1_2, ⟨gx1_3, ⟨gx1_4, ⟨gx1_5, gx1_6⟩⟩⟩⟩⟩⟩⟩ := Opn.at_ (Opn.struct Tryd.underlying37 (OpnF.cons (Opn.int Tryd.underlying3) rfl (by kernel_rfl) rfl (OpnF.cons (Opn.int Tryd.underlying3) rfl (by kernel_rfl) rfl (OpnF.cons (Opn.int Tryd.underlying3) rfl (by kernel_rfl) rfl (OpnF.cons (Opn.int Tryd.underlying3) rfl (by kernel_rfl) rfl (OpnF.cons (Opn.string Tryd.underlying9) rfl (by kernel_rfl) rfl (OpnF.cons (Opn.string Tryd.underlying9) rfl (by kernel_rfl) rfl (OpnF.one (Opn.string Tryd.underlying9) rfl (by kernel_rfl)))))))) (by kernel_rfl)) h1
  obtain rfl : v1 = .agg #[.int .i64 x1_0, .int .i64 x1_1, .int .i64 x1_2, .int .i64 x1_3, .string x1_4, .string x1_5, .string x1_6] := agg_of Tryd.underlying37 (hval 1 37 v1 rfl rfl) e1
  clear hA0 hval0 hsz0
  obtain ⟨k, hk⟩ := Pure.FnExactMessageSigned x0 x1_0 x1_1 x1_2 x1_3 x1_4 x1_5 x1_6 gx0 gx1_0 gx1_1 gx1_2 gx1_3 gx1_4 gx1_5 gx1_6
  refine (laws_FnExactMessageSigned.calls k x0 x1_0 x1_1 x1_2 x1_3 x1_4 x1_5 x1_6 true W  hG hk).mono fun e W' ⟨he, bel⟩ => ?_
  subst he
  exact ⟨_, rfl, _, _, _, [], _, _, hW', trodAll_mk1 (shut_bool Tryd.underlying4 _), (trodAll_cons_mk (Below.trod laidOut (by kernel_rfl) (of_decide_eq_true (by kernel_rfl)) k0 bel lt0) (trodAll_cons_mk (Below.trod laidOut (by kernel_rfl) (of_decide_eq_true (by kernel_rfl)) k1 bel lt1) trodAll_mk0)), Below.trodVars laidOut bel (by kernel_rfl) hV, bel.frame _, fun h => by cases h⟩
theorem over : Rows.fnExactMessageSignedRow.holds Tryd.pinned (OpenSpec.ofChange Rows.fnExactMessageSignedSpec) :=
  OpenClaim.holds_of_wide 9 Tryd.f9 rfl rfl rfl rfl rfl rfl rfl ⟨rfl, rfl, rfl, rfl, rfl⟩ rfl rfl rfl rfl rfl (by kernel_rfl) Tryd.func9 (by kernel_rfl)
    (of_decide_eq_true (by kernel_rfl)) (by unfold Func.isWrapper; first | (rw [if_pos (by decide +kernel)]; kernel_rfl) | (rw [if_neg (by decide +kernel)]; exact ⟨rfl, rfl⟩))
    (fun os started H enc _ => lifted os started H enc)
theorem card : Rows.FnExactMessageSignedCardSaid :=
  Claim7.holds_tied_plain_at .later [] [.data] true (true, "9d6af0a908e6099cdeb097d0880774c0520c63795da99e62befc09a2ccf02f7d") false
    over (fun _ h => by cases h) (by kernel_rfl) (fun _ h => by cases h) fnExactMessageSigned_row_tie rfl ⟨rfl, rfl⟩ (by kernel_rfl) rfl
    (fun f fn hf hfn => by
      obtain rfl : f = 9 := Option.some.inj ((show Tryd.prog.funcNamed "loop.example/g00292/laws.FnExactMessageSigned" = some 9 by kernel_rfl).symm.trans hf) |>.symm
      obtain rfl : fn = Tryd.f9 := (Option.some.inj (Tryd.func9.symm.trans hfn)).symm
      exact ⟨by kernel_rfl, fun j t ht => by
        rw [Tryd.params9] at ht
        have hm : t ∈ [3, 37] := by simpa using Array.mem_of_getElem? ht
        have hall : ([3, 37].all fun u => !Tryd.prog.wantsStandIn u) = true := by kernel_rfl
        exact (show Tryd.prog.wantsStandIn t = false by simpa using List.all_eq_true.1 hall t hm)⟩)
    (by kernel_rfl)
theorem proved : Rows.FnExactMessageSignedCardSaid := card
end Go.Proofs.YtgknilganicofaaDoor.fnExactMessageSigned
namespace Go.Proofs.YtgknilganicofaaDoor
/-- The row, under a short name, for the claim. -/
theorem fnExactMessageSigned_card_holds : Rows.FnExactMessageSignedCardSaid := fnExactMessageSigned.proved
#print axioms fnExactMessageSigned_card_holds
end Go.Proofs.YtgknilganicofaaDoor
