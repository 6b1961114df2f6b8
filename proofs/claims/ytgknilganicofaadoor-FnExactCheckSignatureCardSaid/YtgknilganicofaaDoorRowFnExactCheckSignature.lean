/- The statement FnExactCheckSignature, out of its pure law and the walk of its functions; no condition. -/
import Derived.Test.YtgknilganicofaaDoorRows
import Derived.Test.YtgknilganicofaaDoorPFnExactCheckSignaturex6
import Derived.Test.YtgknilganicofaaDoorPureFnExactCheckSignature
import Derived.Test.YtgknilganicofaaDoorOpens
import Derived.WalkKit
import Derived.ProofKit
import Derived.OpenShut
import Derived.ShutString
import Derived.ChangeOld
import Derived.Below
import Derived.SizedLaws
import Derived.OpenVars
import Derived.ChangeVars
import Derived.LaidMore
import Derived.Stop.Joined
import Derived.SevenTiedAt
import Derived.Test.YtgknilganicofaaDoorTie
import Derived.Test.YtgknilganicofaaDoorCards
import Derived.Test.YtgknilganicofaaDoorGlob
namespace Go.Proofs.YtgknilganicofaaDoor.fnExactCheckSignature
open Go.ChangeShapes Go.WideShapes Go.ChangeAt Go.RowKit Go.Proofs.YtgknilganicofaaDoorO Go.Proofs.YtgknilganicofaaDoor.PFnExactCheckSignature Go.Proofs.YtgknilganicofaaDoorV.PrintWords Go.Proofs.YtgknilganicofaaDoor.Sha
open Go.ChangeMaps (open_string shut_string)
set_option linter.unusedVariables false
theorem own : ownKnob Tryd.prog.godebug = none := by kernel_rfl
theorem laidOut : laidOutB Tryd.prog = true := by kernel_rfl
set_option maxRecDepth 100000 in
theorem lifted (os : Os) (started : os.Started) (H : Type) (enc : TypeId × Value → H) :
    ReturnsInHanded {} Tryd.checked os 12 .any (fun w args => (Rows.fnExactCheckSignatureSpec.pre enc Tryd.prog Tryd.f12 Rows.fnExactCheckSignatureRow.domain false w args ∧ laidMetH Tryd.prog Glob.L w) ∧ sizedMet enc Tryd.prog Tryd.f12 (OpenSpec.ofChange Rows.fnExactCheckSignatureSpec) false w args) (Rows.fnExactCheckSignatureSpec.post enc Tryd.prog Tryd.f12 false true false false) := by
  refine returnsInHanded_of_change_and (C := Tryd.checked) (X := fun w _ => laidMetH Tryd.prog Glob.L w) (fun _ _ _ hh h => h.of_heap hh) own started (by kernel_rfl) Tryd.func12
    (ChangeSpec.witness_shaped (enc := enc) (C := Tryd.checked) (os := os) (X := fun w _ => laidMetH Tryd.prog Glob.L w) false (World.doorLaid Tryd.prog 14 os) #[.string ByteArray.empty, .string ByteArray.empty, .agg #[.int .i64 0, .slice none 0 0, .slice none 0 0, .slice none 0 0]] 8 rfl (World.shaped_of_RefB (by kernel_rfl) (by kernel_rfl)) (by kernel_rfl) (by kernel_rfl) (by kernel_rfl) (Glob.door_met os _)) ?_
  intro W base args ds gs before hval0 hW hcnd hsz0 hL _
  have hG : GlobA W := Glob.glob_of hL
  have hval : ∀ (j : Nat) t v, Tryd.f12.params[j]? = some t → args[j]? = some v → Value.okWide Tryd.prog W .any base t v := hval0
  have hW' := hW
  obtain ⟨p, q, hA0, hV, rfl, hfz, hnd⟩ := hW
  have hA : DataW.TrodAll enc Tryd.prog W 0 (fun _ => true) true Tryd.f12.params.toList args.toList ds p := hA0
  rw [Tryd.params12] at hA hval
  obtain ⟨v0, vs0, d0, ds0, p0, q0, hargs, rfl, rfl, h0, r0⟩ := trodAll_cons hA
  obtain ⟨v1, vs1, d1, ds1, p1, q1, rfl, rfl, rfl, h1, r1⟩ := trodAll_cons r0
  obtain ⟨v2, vs2, d2, ds2, p2, q2, rfl, rfl, rfl, h2, r2⟩ := trodAll_cons r1
  obtain ⟨rfl, rfl, rfl⟩ := trodAll_nil r2
  obtain rfl : args = #[v0, v1, v2] := by cases args; simp_all
  obtain ⟨_, _, _, _, dv, _, hgs, _⟩ := trodVars_one (show DataW.TrodVars enc Tryd.prog W (fun _ => true) ["loop.example/g00292/impl.roundWords"] gs q from hV)
  subst hgs
  have k0 := h0
  have lt0 : ∀ x ∈ p0, x.block < W.heap.size := by obtain ⟨m, hm⟩ := k0; exact DataW.trod_lt m _ _ _ hm
  obtain ⟨x0, rfl, rfl, rfl, gx0⟩ := open_string Tryd.underlying9 (hval 0 9 v0 rfl rfl) h0
  have k1 := h1
  have lt1 : ∀ x ∈ p1, x.block < W.heap.size := by obtain ⟨m, hm⟩ := k1; exact DataW.trod_lt m _ _ _ hm
  obtain ⟨x1, rfl, rfl, rfl, gx1⟩ := open_string Tryd.underlying9 (hval 1 9 v1 rfl rfl) h1
  have k2 := h2
  have lt2 : ∀ x ∈ p2, x.block < W.heap.size := by obtain ⟨m, hm⟩ := k2; exact DataW.trod_lt m _ _ _ hm
  obtain ⟨⟨x2_0, ⟨x2_1, ⟨x2_2, x2_3⟩⟩⟩, ⟨_, _, e2, rfl, ⟨_, _, rfl, ⟨Ax2_1, cx2_1, rfl, hlx2_1, hCx2_1⟩, ⟨_, _, rfl, ⟨Ax2_2, cx2_2, rfl, hlx2_2, hCx2_2⟩, ⟨Ax2_3, cx2_3, rfl, hlx2_3, hCx2_3⟩⟩⟩⟩, ⟨gx2_0, ⟨gx2_1, ⟨gx2_2, gx2_3⟩⟩⟩⟩ := Opn.at_ (Opn.struct Tryd.underlying48 (OpnF.cons (Opn.int Tryd.underlying3) rfl (by kernel_rfl) rfl (OpnF.cons (Opn.slice Tryd.underlying46 (Opn.string Tryd.underlying9) (by kernel_rfl)) rfl (by kernel_rfl) rfl (OpnF.cons (Opn.slice Tryd.underlying46 (Opn.string Tryd.underlying9) (by kernel_rfl)) rfl (by kernel_rfl) rfl (OpnF.one (Opn.slice Tryd.underlying46 (Opn.string Tryd.underlying9) (by kernel_rfl)) rfl (by kernel_rfl))))) (by kernel_rfl)) h2
  obtain rfl : v2 = .agg #[.int .i64 x2_0, .slice Ax2_1 x2_1.length cx2_1, .slice Ax2_2 x2_2.length cx2_2, .slice Ax2_3 x2_3.length cx2_3] := agg_of Tryd.underlying48 (hval 2 48 v2 rfl rfl) e2
  clear hA0 hval0 hsz0
  obtain ⟨k, hk⟩ := Pure.FnExactCheckSignature x0 x1 x2_0 x2_1 x2_2 x2_3 gx0 gx1 gx2_0 gx2_1 gx2_2 gx2_3
  refine (laws_FnExactCheckSignature.calls k x0 x1 x2_0 Ax2_1 cx2_1 x2_1 Ax2_2 cx2_2 x2_2 Ax2_3 cx2_3 x2_3 true W hCx2_1 hlx2_1 hCx2_2 hlx2_2 hCx2_3 hlx2_3 hG hk).mono fun e W' ⟨he, bel⟩ => ?_
  subst he
  exact ⟨_, rfl, _, _, _, [], _, _, hW', trodAll_mk1 (shut_bool Tryd.underlying4 _), (trodAll_cons_mk (Below.trod laidOut (by kernel_rfl) (of_decide_eq_true (by kernel_rfl)) k0 bel lt0) (trodAll_cons_mk (Below.trod laidOut (by kernel_rfl) (of_decide_eq_true (by kernel_rfl)) k1 bel lt1) (trodAll_cons_mk (Below.trod laidOut (by kernel_rfl) (of_decide_eq_true (by kernel_rfl)) k2 bel lt2) trodAll_mk0))), Below.trodVars laidOut bel (by kernel_rfl) hV, bel.frame _, fun h => by cases h⟩
theorem over : Rows.fnExactCheckSignatureRow.holds Tryd.pinned (OpenSpec.ofChange Rows.fnExactCheckSignatureSpec) :=
  OpenClaim.holds_of_wide 12 Tryd.f12 rfl rfl rfl rfl rfl rfl rfl ⟨rfl, rfl, rfl, rfl, rfl⟩ rfl rfl rfl rfl rfl (by kernel_rfl) Tryd.func12 (by kernel_rfl)
    (of_decide_eq_true (by kernel_rfl)) (by unfold Func.isWrapper; first | (rw [if_pos (by decide +kernel)]; kernel_rfl) | (rw [if_neg (by decide +kernel)]; exact ⟨rfl, rfl⟩))
    (fun os started H enc _ => lifted os started H enc)
theorem card : Rows.FnExactCheckSignatureCardSaid :=
  Claim7.holds_tied_plain_at .later [] [.data] true (true, "9d6af0a908e6099cdeb097d0880774c0520c63795da99e62befc09a2ccf02f7d") false
    over (fun _ h => by cases h) (by kernel_rfl) (fun _ h => by cases h) fnExactCheckSignature_row_tie rfl ⟨rfl, rfl⟩ (by kernel_rfl) rfl
    (fun f fn hf hfn => by
      obtain rfl : f = 12 := Option.some.inj ((show Tryd.prog.funcNamed "loop.example/g00292/laws.FnExactCheckSignature" = some 12 by kernel_rfl).symm.trans hf) |>.symm
      obtain rfl : fn = Tryd.f12 := (Option.some.inj (Tryd.func12.symm.trans hfn)).symm
      exact ⟨by kernel_rfl, fun j t ht => by
        rw [Tryd.params12] at ht
        have hm : t ∈ [9, 9, 48] := by simpa using Array.mem_of_getElem? ht
        have hall : ([9, 9, 48].all fun u => !Tryd.prog.wantsStandIn u) = true := by kernel_rfl
        exact (show Tryd.prog.wantsStandIn t = false by simpa using List.all_eq_true.1 hall t hm)⟩)
    (by kernel_rfl)
theorem proved : Rows.FnExactCheckSignatureCardSaid := card
end Go.Proofs.YtgknilganicofaaDoor.fnExactCheckSignature
namespace Go.Proofs.YtgknilganicofaaDoor
/-- The row, under a short name, for the claim. -/
theorem fnExactCheckSignature_card_holds : Rows.FnExactCheckSignatureCardSaid := fnExactCheckSignature.proved
#print axioms fnExactCheckSignature_card_holds
end Go.Proofs.YtgknilganicofaaDoor
