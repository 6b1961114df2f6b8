/- The statement FnExactKeyChainOK, out of its pure law and the walk of its functions; no condition. -/
import Derived.Test.YtngeekijgphnjaaRows
import Derived.Test.YtngeekijgphnjaaPFnExactKeyChainOKx1
import Derived.Test.YtngeekijgphnjaaPureFnExactKeyChainOK
import Derived.Test.YtngeekijgphnjaaOpens
import Derived.WalkKit
import Derived.ProofKit
import Derived.OpenShut
import Derived.ShutString
import Derived.ChangeOld
import Derived.Below
import Derived.SizedLaws
namespace Go.Proofs.Ytngeekijgphnjaa.fnExactKeyChainOK
open Go.ChangeShapes Go.WideShapes Go.ChangeAt Go.RowKit Go.Proofs.YtngeekijgphnjaaO Go.Proofs.Ytngeekijgphnjaa.PFnExactKeyChainOK Go.Proofs.YtngeekijgphnjaaW.PrintWords
open Go.ChangeMaps (open_string shut_string)
set_option linter.unusedVariables false
theorem own : ownKnob Try.prog.godebug = none := by kernel_rfl
theorem laidOut : laidOutB Try.prog = true := by kernel_rfl
set_option maxRecDepth 100000 in
theorem lifted (os : Os) (started : os.Started) (H : Type) (enc : TypeId × Value → H) :
    ReturnsInHanded {} Try.checked os 8 .any (Rows.fnExactKeyChainOKSpec.pre6 enc Try.prog Try.f8 Rows.fnExactKeyChainOKRow.domain false) (Rows.fnExactKeyChainOKSpec.post enc Try.prog Try.f8 false true false false) := by
  refine returnsInHanded_of_change_sized (C := Try.checked) own started (by kernel_rfl) Try.func8
    (ChangeSpec.witness6 (enc := enc) (C := Try.checked) false ⟨#[], #[.agg #[.string ByteArray.empty, .int .i64 0]], []⟩ 8 (by kernel_rfl) (by kernel_rfl) (by kernel_rfl) (by kernel_rfl)) ?_
  intro W base args ds gs before hval0 hW hcnd hsz0 _
  have hval : ∀ (j : Nat) t v, Try.f8.params[j]? = some t → args[j]? = some v → Value.okWide Try.prog W .any base t v := hval0
  have hW' := hW
  obtain ⟨p, q, hA0, hV, rfl, hfz, hnd⟩ := hW
  have hA : DataW.TrodAll enc Try.prog W 0 (fun _ => true) true Try.f8.params.toList args.toList ds p := hA0
  rw [Try.params8] at hA hval
  obtain ⟨v0, vs0, d0, ds0, p0, q0, hargs, rfl, rfl, h0, r0⟩ := trodAll_cons hA
  obtain ⟨rfl, rfl, rfl⟩ := trodAll_nil r0
  obtain rfl : args = #[v0] := by cases args; simp_all
  obtain ⟨rfl, rfl⟩ := trodVars_none hV
  have k0 := h0
  have lt0 : ∀ x ∈ p0, x.block < W.heap.size := by obtain ⟨m, hm⟩ := k0; exact DataW.trod_lt m _ _ _ hm
  obtain ⟨⟨x0_0, x0_1⟩, ⟨_, _, e0, rfl, rfl⟩, ⟨gx0_0, gx0_1⟩⟩ := Opn.at_ (Opn.struct Try.underlying33 (OpnF.cons (Opn.string Try.underlying9) rfl (by kernel_rfl) rfl (OpnF.one (Opn.int Try.underlying3) rfl (by kernel_rfl))) (by kernel_rfl)) h0
  obtain rfl : v0 = .agg #[.string x0_0, .int .i64 x0_1] := agg_of Try.underlying33 (hval 0 33 v0 rfl rfl) e0
  clear hA0 hval0 hsz0
  have hk := Pure.FnExactKeyChainOK x0_0 x0_1 gx0_0 gx0_1
  refine (laws_FnExactKeyChainOK.calls x0_0 x0_1 true W  hk).mono fun e W' ⟨he, bel⟩ => ?_
  subst he
  exact ⟨_, rfl, _, _, _, [], _, [], hW', trodAll_mk1 (shut_bool Try.underlying4 _), (trodAll_cons_mk (Below.trod laidOut (by kernel_rfl) (of_decide_eq_true (by kernel_rfl)) k0 bel lt0) trodAll_mk0), rfl, bel.frame _, fun h => by cases h⟩
theorem over : Rows.fnExactKeyChainOKRow.holds Try.pinned (OpenSpec.ofChange Rows.fnExactKeyChainOKSpec) :=
  OpenClaim.holds_of_wide 8 Try.f8 rfl rfl rfl rfl rfl rfl rfl ⟨rfl, rfl, rfl, rfl, rfl⟩ rfl rfl rfl rfl rfl (by kernel_rfl) Try.func8 (by kernel_rfl)
    (of_decide_eq_true (by kernel_rfl)) (by unfold Func.isWrapper; first | (rw [if_pos (by decide +kernel)]; kernel_rfl) | (rw [if_neg (by decide +kernel)]; exact ⟨rfl, rfl⟩))
    (fun os started H enc _ => lifted os started H enc)
theorem proved : Rows.FnExactKeyChainOKSaid := over
end Go.Proofs.Ytngeekijgphnjaa.fnExactKeyChainOK
namespace Go.Proofs.Ytngeekijgphnjaa
/-- The row, under a short name, for the claim. -/
theorem fnExactKeyChainOK_holds : Rows.FnExactKeyChainOKSaid := fnExactKeyChainOK.proved
#print axioms fnExactKeyChainOK_holds
end Go.Proofs.Ytngeekijgphnjaa
