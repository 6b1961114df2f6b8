/- The statement FnAgreed, out of its pure law and the walk of its functions; no condition. -/
import Derived.Test.YtmkaknegjahjaaaDoorRows
import Derived.Test.YtmkaknegjahjaaaDoorPFnAgreedx6
import Derived.Test.YtmkaknegjahjaaaDoorPureFnAgreed
import Derived.Test.YtmkaknegjahjaaaDoorOpens
import Derived.WalkKit
import Derived.ProofKit
import Derived.OpenShut
import Derived.ShutString
import Derived.ChangeOld
import Derived.Below
import Derived.SizedLaws
import Derived.OpenVars
import Derived.ChangeVars
import Derived.LaidMore
import Derived.Stop.Joined
import Derived.SevenTiedAt
import Derived.Test.YtmkaknegjahjaaaDoorTie
import Derived.Test.YtmkaknegjahjaaaDoorCards
import Derived.Test.YtmkaknegjahjaaaDoorGlob
namespace Go.Proofs.YtmkaknegjahjaaaDoor.fnAgreed
open Go.ChangeShapes Go.WideShapes Go.ChangeAt Go.RowKit Go.Proofs.YtmkaknegjahjaaaDoorO Go.Proofs.YtmkaknegjahjaaaDoor.PFnAgreed Go.Proofs.YtmkaknegjahjaaaDoorV.PrintWords Go.Proofs.YtmkaknegjahjaaaDoor.Sha
open Go.ChangeMaps (open_string shut_string)
set_option linter.unusedVariables false
theorem own : ownKnob Tryd.prog.godebug = none := by kernel_rfl
theorem laidOut : laidOutB Tryd.prog = true := by kernel_rfl
set_option maxRecDepth 100000 in
theorem lifted (os : Os) (started : os.Started) (H : Type) (enc : TypeId × Value → H) :
    ReturnsInHanded {} Tryd.checked os 9 .any (fun w args => (Rows.fnAgreedSpec.pre enc Tryd.prog Tryd.f9 Rows.fnAgreedRow.domain false w args ∧ laidMetH Tryd.prog Glob.L w) ∧ sizedMet enc Tryd.prog Tryd.f9 (OpenSpec.ofChange Rows.fnAgreedSpec) false w args) (Rows.fnAgreedSpec.post enc Tryd.prog Tryd.f9 false true false false) := by
  refine returnsInHanded_of_change_and (C := Tryd.checked) (X := fun w _ => laidMetH Tryd.prog Glob.L w) (fun _ _ _ hh h => h.of_heap hh) own started (by kernel_rfl) Tryd.func9
    (ChangeSpec.witness_shaped (enc := enc) (C := Tryd.checked) (os := os) (X := fun w _ => laidMetH Tryd.prog Glob.L w) false (World.doorLaid Tryd.prog 14 os) #[.slice none 0 0, .slice none 0 0] 8 rfl (World.shaped_of_RefB (by kernel_rfl) (by kernel_rfl)) (by kernel_rfl) (by kernel_rfl) (by kernel_rfl) (Glob.door_met os _)) ?_
  intro W base args ds gs before hval0 hW hcnd hsz0 hL _
  have hG : GlobA W := Glob.glob_of hL
  have hval : ∀ (j : Nat) t v, Tryd.f9.params[j]? = some t → args[j]? = some v → Value.okWide Tryd.prog W .any base t v := hval0
  have hW' := hW
  obtain ⟨p, q, hA0, hV, rfl, hfz, hnd⟩ := hW
  have hA : DataW.TrodAll enc Tryd.prog W 0 (fun _ => true) true Tryd.f9.params.toList args.toList ds p := hA0
  rw [Tryd.params9] at hA hval
  obtain ⟨v0, vs0, d0, ds0, p0, q0, hargs, rfl, rfl, h0, r0⟩ := trodAll_cons hA
  obtain ⟨v1, vs1, d1, ds1, p1, q1, rfl, rfl, rfl, h1, r1⟩ := trodAll_cons r0
  obtain ⟨rfl, rfl, rfl⟩ := trodAll_nil r1
  obtain rfl : args = #[v0, v1] := by cases args; simp_all
  obtain ⟨_, _, _, _, dv, _, hgs, _⟩ := trodVars_one (show DataW.TrodVars enc Tryd.prog W (fun _ => true) ["loop.example/g00292/impl.roundWords"] gs q from hV)
  subst hgs
  have k0 := h0
  have lt0 : ∀ x ∈ p0, x.block < W.heap.size := by obtain ⟨m, hm⟩ := k0; exact DataW.trod_lt m _ _ _ hm
  obtain ⟨x0, ⟨Ax0, cx0, e0, hlx0, hCx0⟩, gx0⟩ := Opn.at_ (Opn.slice Tryd.underlying22 (Opn.int Tryd.underlying5) (by kernel_rfl)) h0
  obtain rfl := slice_of Tryd.underlying22 (hval 0 22 v0 rfl rfl) e0
  have k1 := h1
  have lt1 : ∀ x ∈ p1, x.block < W.heap.size := by obtain ⟨m, hm⟩ := k1; exact DataW.trod_lt m _ _ _ hm
  obtain ⟨x1, ⟨Ax1, cx1, e1, hlx1, hCx1⟩, gx1⟩ := Opn.at_ (Opn.slice Tryd.underlying22 (Opn.int Tryd.underlying5) (by kernel_rfl)) h1
  obtain rfl := slice_of Tryd.underlying22 (hval 1 22 v1 rfl rfl) e1
  clear hA0 hval0 hsz0
  obtain ⟨k, hk⟩ := Pure.FnAgreed x0 x1 gx0 gx1
  refine (laws_FnAgreed.calls k Ax0 cx0 x0 Ax1 cx1 x1 true W hCx0 hlx0 hCx1 hlx1 hG rfl hk).mono fun e W' ⟨he, bel⟩ => ?_
  subst he
  exact ⟨_, rfl, _, _, _, [], _, _, hW', trodAll_mk1 (shut_bool Tryd.underlying4 _), (trodAll_cons_mk (Below.trod laidOut (by kernel_rfl) (of_decide_eq_true (by kernel_rfl)) k0 bel lt0) (trodAll_cons_mk (Below.trod laidOut (by kernel_rfl) (of_decide_eq_true (by kernel_rfl)) k1 bel lt1) trodAll_mk0)), Below.trodVars laidOut bel (by kernel_rfl) hV, bel.frame _, fun h => by cases h⟩
theorem over : Rows.fnAgreedRow.holds Tryd.pinned (OpenSpec.ofChange Rows.fnAgreedSpec) :=
  OpenClaim.holds_of_wide 9 Tryd.f9 rfl rfl rfl rfl rfl rfl rfl ⟨rfl, rfl, rfl, rfl, rfl⟩ rfl rfl rfl rfl rfl (by kernel_rfl) Tryd.func9 (by kernel_rfl)
    (of_decide_eq_true (by kernel_rfl)) (by unfold Func.isWrapper; first | (rw [if_pos (by decide +kernel)]; kernel_rfl) | (rw [if_neg (by decide +kernel)]; exact ⟨rfl, rfl⟩))
    (fun os started H enc _ => lifted os started H enc)
theorem card : Rows.FnAgreedCardSaid :=
  Claim7.holds_tied_plain_at .later [] [.data] true (true, "f826c8bcbfcd37441bd9634777cc90420b5f7f0b7ab6503daca6d284be377300") false
    over (fun _ h => by cases h) (by kernel_rfl) (fun _ h => by cases h) fnAgreed_row_tie rfl ⟨rfl, rfl⟩ (by kernel_rfl) rfl
    (fun f fn hf hfn => by
      obtain rfl : f = 9 := Option.some.inj ((show Tryd.prog.funcNamed "loop.example/g00292/laws.FnAgreed" = some 9 by kernel_rfl).symm.trans hf) |>.symm
      obtain rfl : fn = Tryd.f9 := (Option.some.inj (Tryd.func9.symm.trans hfn)).symm
      exact ⟨by kernel_rfl, fun j t ht => by
        rw [Tryd.params9] at ht
        have hm : t ∈ [22, 22] := by simpa using Array.mem_of_getElem? ht
        have hall : ([22, 22].all fun u => !Tryd.prog.wantsStandIn u) = true := by kernel_rfl
        exact (show Tryd.prog.wantsStandIn t = false by simpa using List.all_eq_true.1 hall t hm)⟩)
    (by kernel_rfl)
theorem proved : Rows.FnAgreedCardSaid := card
end Go.Proofs.YtmkaknegjahjaaaDoor.fnAgreed
namespace Go.Proofs.YtmkaknegjahjaaaDoor
/-- The row, under a short name, for the claim. -/
theorem fnAgreed_card_holds : Rows.FnAgreedCardSaid := fnAgreed.proved
#print axioms fnAgreed_card_holds
end Go.Proofs.YtmkaknegjahjaaaDoor
