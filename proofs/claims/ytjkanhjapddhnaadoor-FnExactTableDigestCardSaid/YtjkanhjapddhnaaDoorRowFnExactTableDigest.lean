/- The statement FnExactTableDigest, out of its pure law and the walk of its functions; no condition. -/
import Derived.Test.YtjkanhjapddhnaaDoorRows
import Derived.Test.YtjkanhjapddhnaaDoorPFnExactTableDigestx11
import Derived.Test.YtjkanhjapddhnaaDoorPureFnExactTableDigest
import Derived.Test.YtjkanhjapddhnaaDoorOpens
import Derived.WalkKit
import Derived.ProofKit
import Derived.OpenShut
import Derived.ShutString
import Derived.ChangeOld
import Derived.Below
import Derived.SizedLaws
import Derived.OpenVars
import Derived.ChangeVars
import Derived.LaidMore
import Derived.Stop.Joined
import Derived.SevenTiedAt
import Derived.Test.YtjkanhjapddhnaaDoorTie
import Derived.Test.YtjkanhjapddhnaaDoorCards
import Derived.Test.YtjkanhjapddhnaaDoorGlob
namespace Go.Proofs.YtjkanhjapddhnaaDoor.fnExactTableDigest
open Go.ChangeShapes Go.WideShapes Go.ChangeAt Go.RowKit Go.Proofs.YtjkanhjapddhnaaDoorO Go.Proofs.YtjkanhjapddhnaaDoor.PFnExactTableDigest Go.Proofs.YtjkanhjapddhnaaDoorV.PrintWords Go.Proofs.YtjkanhjapddhnaaDoor.Sha
open Go.ChangeMaps (open_string shut_string)
set_option linter.unusedVariables false
theorem own : ownKnob Tryd.prog.godebug = none := by kernel_rfl
theorem laidOut : laidOutB Tryd.prog = true := by kernel_rfl
def good93 (x : S93) : Prop := ((Lit.int .i64 x.f0).wf = true) ∧ (Lit.int .i64 x.f1).wf = true
theorem opn93 : Opn Tryd.prog 93 k93 good93 := Opn.mono (Opn.iso (Opn.struct Tryd.underlying93 (OpnF.cons (Opn.int Tryd.underlying3) rfl (by kernel_rfl) rfl (OpnF.one (Opn.int Tryd.underlying3) rfl (by kernel_rfl))) (by kernel_rfl)) (fun x : S93 => (x.f0, x.f1)) (fun x => ⟨x.1, x.2⟩) (fun _ => rfl)) (fun _ h => h)
def good51 (x : S51) : Prop := (x.f0.size ≤ 9223372036854775807) ∧ ((Lit.int .i64 x.f1).wf = true) ∧ ((Lit.int .i64 x.f2).wf = true) ∧ ((Lit.int .i64 x.f3).wf = true) ∧ (x.f4.length ≤ 9223372036854775807 ∧ ∀ y ∈ x.f4, good93 y)
theorem opn51 : Opn Tryd.prog 51 k51 good51 := Opn.mono (Opn.iso (Opn.struct Tryd.underlying51 (OpnF.cons (Opn.string Tryd.underlying9) rfl (by kernel_rfl) rfl (OpnF.cons (Opn.int Tryd.underlying3) rfl (by kernel_rfl) rfl (OpnF.cons (Opn.int Tryd.underlying3) rfl (by kernel_rfl) rfl (OpnF.cons (Opn.int Tryd.underlying3) rfl (by kernel_rfl) rfl (OpnF.one (Opn.slice Tryd.underlying49 opn93 (by kernel_rfl)) rfl (by kernel_rfl)))))) (by kernel_rfl)) (fun x : S51 => (x.f0, x.f1, x.f2, x.f3, x.f4)) (fun x => ⟨x.1, x.2.1, x.2.2.1, x.2.2.2.1, x.2.2.2.2⟩) (fun _ => rfl)) (fun _ h => h)
def good72 (x : S72) : Prop := ((Lit.int .i64 x.f0).wf = true) ∧ ((Lit.int .i64 x.f1).wf = true) ∧ ((Lit.int .i64 x.f2).wf = true) ∧ (Lit.int .i64 x.f3).wf = true
theorem opn72 : Opn Tryd.prog 72 k72 good72 := Opn.mono (Opn.iso (Opn.struct Tryd.underlying72 (OpnF.cons (Opn.int Tryd.underlying3) rfl (by kernel_rfl) rfl (OpnF.cons (Opn.int Tryd.underlying3) rfl (by kernel_rfl) rfl (OpnF.cons (Opn.int Tryd.underlying3) rfl (by kernel_rfl) rfl (OpnF.one (Opn.int Tryd.underlying3) rfl (by kernel_rfl))))) (by kernel_rfl)) (fun x : S72 => (x.f0, x.f1, x.f2, x.f3)) (fun x => ⟨x.1, x.2.1, x.2.2.1, x.2.2.2⟩) (fun _ => rfl)) (fun _ h => h)
def good74 (x : S74) : Prop := ((Lit.int .i64 x.f0).wf = true) ∧ ((Lit.int .i64 x.f1).wf = true) ∧ good72 x.f2
theorem opn74 : Opn Tryd.prog 74 k74 good74 := Opn.mono (Opn.iso (Opn.struct Tryd.underlying74 (OpnF.cons (Opn.int Tryd.underlying3) rfl (by kernel_rfl) rfl (OpnF.cons (Opn.int Tryd.underlying3) rfl (by kernel_rfl) rfl (OpnF.one opn72 rfl (by kernel_rfl)))) (by kernel_rfl)) (fun x : S74 => (x.f0, x.f1, x.f2)) (fun x => ⟨x.1, x.2.1, x.2.2⟩) (fun _ => rfl)) (fun _ h => h)
set_option maxRecDepth 100000 in
theorem lifted (os : Os) (started : os.Started) (H : Type) (enc : TypeId × Value → H) :
    ReturnsInHanded {} Tryd.checked os 3 .any (fun w args => (Rows.fnExactTableDigestSpec.pre enc Tryd.prog Tryd.f3 Rows.fnExactTableDigestRow.domain false w args ∧ laidMetH Tryd.prog Glob.L w) ∧ sizedMet enc Tryd.prog Tryd.f3 (OpenSpec.ofChange Rows.fnExactTableDigestSpec) false w args) (Rows.fnExactTableDigestSpec.post enc Tryd.prog Tryd.f3 false true false false) := by
  refine returnsInHanded_of_change_and (C := Tryd.checked) (X := fun w _ => laidMetH Tryd.prog Glob.L w) (fun _ _ _ hh h => h.of_heap hh) own started (by kernel_rfl) Tryd.func3
    (ChangeSpec.witness_shaped (enc := enc) (C := Tryd.checked) (os := os) (X := fun w _ => laidMetH Tryd.prog Glob.L w) false (World.doorLaid Tryd.prog 14 os) #[.agg #[.int .i64 0, .int .i64 0, .slice none 0 0, .slice none 0 0]] 8 rfl (World.shaped_of_RefB (by kernel_rfl) (by kernel_rfl)) (by kernel_rfl) (by kernel_rfl) (by kernel_rfl) (Glob.door_met os _)) ?_
  intro W base args ds gs before hval0 hW hcnd hsz0 hL _
  have hG : GlobA W := Glob.glob_of hL
  have hval : ∀ (j : Nat) t v, Tryd.f3.params[j]? = some t → args[j]? = some v → Value.okWide Tryd.prog W .any base t v := hval0
  have hW' := hW
  obtain ⟨p, q, hA0, hV, rfl, hfz, hnd⟩ := hW
  have hA : DataW.TrodAll enc Tryd.prog W 0 (fun _ => true) true Tryd.f3.params.toList args.toList ds p := hA0
  rw [Tryd.params3] at hA hval
  obtain ⟨v0, vs0, d0, ds0, p0, q0, hargs, rfl, rfl, h0, r0⟩ := trodAll_cons hA
  obtain ⟨rfl, rfl, rfl⟩ := trodAll_nil r0
  obtain rfl : args = #[v0] := by cases args; simp_all
  obtain ⟨_, _, _, _, dv, _, hgs, _⟩ := trodVars_one (show DataW.TrodVars enc Tryd.prog W (fun _ => true) ["loop.example/g00292/impl.roundWords"] gs q from hV)
  subst hgs
  have k0 := h0
  have lt0 : ∀ x ∈ p0, x.block < W.heap.size := by obtain ⟨m, hm⟩ := k0; exact DataW.trod_lt m _ _ _ hm
  obtain ⟨⟨x0_0, ⟨x0_1, ⟨x0_2, x0_3⟩⟩⟩, ⟨_, _, e0, rfl, ⟨_, _, rfl, rfl, ⟨_, _, rfl, ⟨Ax0_2, cx0_2, rfl, hlx0_2, hCx0_2⟩, ⟨Ax0_3, cx0_3, rfl, hlx0_3, hCx0_3⟩⟩⟩⟩, ⟨gx0_0, ⟨gx0_1, ⟨gx0_2, gx0_3⟩⟩⟩⟩ := Opn.at_ (Opn.struct Tryd.underlying25 (OpnF.cons (Opn.int Tryd.underlying3) rfl (by kernel_rfl) rfl (OpnF.cons (Opn.int Tryd.underlying3) rfl (by kernel_rfl) rfl (OpnF.cons (Opn.slice Tryd.underlying22 opn51 (by kernel_rfl)) rfl (by kernel_rfl) rfl (OpnF.one (Opn.slice Tryd.underlying23 opn74 (by kernel_rfl)) rfl (by kernel_rfl))))) (by kernel_rfl)) h0
  obtain rfl : v0 = .agg #[.int .i64 x0_0, .int .i64 x0_1, .slice Ax0_2 x0_2.length cx0_2, .slice Ax0_3 x0_3.length cx0_3] := agg_of Tryd.underlying25 (hval 0 25 v0 rfl rfl) e0
  clear hA0 hval0 hsz0
  obtain ⟨k, hk⟩ := Pure.FnExactTableDigest x0_0 x0_1 x0_2 x0_3 gx0_0 gx0_1 gx0_2 gx0_3
  refine (laws_FnExactTableDigest.calls k x0_0 x0_1 Ax0_2 cx0_2 x0_2 Ax0_3 cx0_3 x0_3 true W hCx0_2 hlx0_2 hCx0_3 hlx0_3 hG rfl hk).mono fun e W' ⟨he, bel⟩ => ?_
  subst he
  exact ⟨_, rfl, _, _, _, [], _, _, hW', trodAll_mk1 (shut_bool Tryd.underlying4 _), (trodAll_cons_mk (Below.trod laidOut (by kernel_rfl) (of_decide_eq_true (by kernel_rfl)) k0 bel lt0) trodAll_mk0), Below.trodVars laidOut bel (by kernel_rfl) hV, bel.frame _, fun h => by cases h⟩
theorem over : Rows.fnExactTableDigestRow.holds Tryd.pinned (OpenSpec.ofChange Rows.fnExactTableDigestSpec) :=
  OpenClaim.holds_of_wide 3 Tryd.f3 rfl rfl rfl rfl rfl rfl rfl ⟨rfl, rfl, rfl, rfl, rfl⟩ rfl rfl rfl rfl rfl (by kernel_rfl) Tryd.func3 (by kernel_rfl)
    (of_decide_eq_true (by kernel_rfl)) (by unfold Func.isWrapper; first | (rw [if_pos (by decide +kernel)]; kernel_rfl) | (rw [if_neg (by decide +kernel)]; exact ⟨rfl, rfl⟩))
    (fun os started H enc _ => lifted os started H enc)
theorem card : Rows.FnExactTableDigestCardSaid :=
  Claim7.holds_tied_plain_at .later [] [.data] true (true, "f0107409fc3d21374cd13967dafe8c0bb4bd3d812cda98be8bb7430f7d55d63d") false
    over (fun _ h => by cases h) (by kernel_rfl) (fun _ h => by cases h) fnExactTableDigest_row_tie rfl ⟨rfl, rfl⟩ (by kernel_rfl) rfl
    (fun f fn hf hfn => by
      obtain rfl : f = 3 := Option.some.inj ((show Tryd.prog.funcNamed "loop.example/g00292/laws.FnExactTableDigest" = some 3 by kernel_rfl).symm.trans hf) |>.symm
      obtain rfl : fn = Tryd.f3 := (Option.some.inj (Tryd.func3.symm.trans hfn)).symm
      exact ⟨by kernel_rfl, fun j t ht => by
        rw [Tryd.params3] at ht
        have hm : t ∈ [25] := by simpa using Array.mem_of_getElem? ht
        have hall : ([25].all fun u => !Tryd.prog.wantsStandIn u) = true := by kernel_rfl
        exact (show Tryd.prog.wantsStandIn t = false by simpa using List.all_eq_true.1 hall t hm)⟩)
    (by kernel_rfl)
theorem proved : Rows.FnExactTableDigestCardSaid := card
end Go.Proofs.YtjkanhjapddhnaaDoor.fnExactTableDigest
namespace Go.Proofs.YtjkanhjapddhnaaDoor
/-- The row, under a short name, for the claim. -/
theorem fnExactTableDigest_card_holds : Rows.FnExactTableDigestCardSaid := fnExactTableDigest.proved
#print axioms fnExactTableDigest_card_holds
end Go.Proofs.YtjkanhjapddhnaaDoor
