/- The statement FnExactRequestOK, out of its pure law and the walk of its functions; no condition. -/
import Derived.Test.YtngeekijgphnjaaRows
import Derived.Test.YtngeekijgphnjaaPFnExactRequestOKx2
import Derived.Test.YtngeekijgphnjaaPureFnExactRequestOK
import Derived.Test.YtngeekijgphnjaaOpens
import Derived.WalkKit
import Derived.ProofKit
import Derived.OpenShut
import Derived.ShutString
import Derived.ChangeOld
import Derived.Below
import Derived.SizedLaws
namespace Go.Proofs.Ytngeekijgphnjaa.fnExactRequestOK
open Go.ChangeShapes Go.WideShapes Go.ChangeAt Go.RowKit Go.Proofs.YtngeekijgphnjaaO Go.Proofs.Ytngeekijgphnjaa.PFnExactRequestOK Go.Proofs.YtngeekijgphnjaaW.PrintWords
open Go.ChangeMaps (open_string shut_string)
set_option linter.unusedVariables false
theorem own : ownKnob Try.prog.godebug = none := by kernel_rfl
theorem laidOut : laidOutB Try.prog = true := by kernel_rfl
set_option maxRecDepth 100000 in
theorem lifted (os : Os) (started : os.Started) (H : Type) (enc : TypeId × Value → H) :
    ReturnsInHanded {} Try.checked os 14 .any (Rows.fnExactRequestOKSpec.pre6 enc Try.prog Try.f14 Rows.fnExactRequestOKRow.domain false) (Rows.fnExactRequestOKSpec.post enc Try.prog Try.f14 false true false false) := by
  refine returnsInHanded_of_change_sized (C := Try.checked) own started (by kernel_rfl) Try.func14
    (ChangeSpec.witness6 (enc := enc) (C := Try.checked) false ⟨#[], #[.agg #[.int .i64 0, .int .i64 0, .int .i64 0, .int .i64 0, .string ByteArray.empty]], []⟩ 8 (by kernel_rfl) (by kernel_rfl) (by kernel_rfl) (by kernel_rfl)) ?_
  intro W base args ds gs before hval0 hW hcnd hsz0 _
  have hval : ∀ (j : Nat) t v, Try.f14.params[j]? = some t → args[j]? = some v → Value.okWide Try.prog W .any base t v := hval0
  have hW' := hW
  obtain ⟨p, q, hA0, hV, rfl, hfz, hnd⟩ := hW
  have hA : DataW.TrodAll enc Try.prog W 0 (fun _ => true) true Try.f14.params.toList args.toList ds p := hA0
  rw [Try.params14] at hA hval
  obtain ⟨v0, vs0, d0, ds0, p0, q0, hargs, rfl, rfl, h0, r0⟩ := trodAll_cons hA
  obtain ⟨rfl, rfl, rfl⟩ := trodAll_nil r0
  obtain rfl : args = #[v0] := by cases args; simp_all
  obtain ⟨rfl, rfl⟩ := trodVars_none hV
  have k0 := h0
  have lt0 : ∀ x ∈ p0, x.block < W.heap.size := by obtain ⟨m, hm⟩ := k0; exact DataW.trod_lt m _ _ _ hm
  obtain ⟨⟨x0_0, ⟨x0_1, ⟨x0_2, ⟨x0_3, x0_4⟩⟩⟩⟩, ⟨_, _, e0, rfl, ⟨_, _, rfl, rfl, ⟨_, _, rfl, rfl, ⟨_, _, rfl, rfl, rfl⟩⟩⟩⟩, ⟨gx0_0, ⟨gx0_1, ⟨gx0_2, ⟨gx0_3, gx0_4⟩⟩⟩⟩⟩ := Opn.at_ (Opn.struct Try.underlying51 (OpnF.cons (Opn.int Try.underlying3) rfl (by kernel_rfl) rfl (OpnF.cons (Opn.int Try.underlying3) rfl (by kernel_rfl) rfl (OpnF.cons (Opn.int Try.underlying3) rfl (by kernel_rfl) rfl (OpnF.cons (Opn.int Try.underlying3) rfl (by kernel_rfl) rfl (OpnF.one (Opn.string Try.underlying9) rfl (by kernel_rfl)))))) (by kernel_rfl)) h0
  obtain rfl : v0 = .agg #[.int .i64 x0_0, .int .i64 x0_1, .int .i64 x0_2, .int .i64 x0_3, .string x0_4] := agg_of Try.underlying51 (hval 0 51 v0 rfl rfl) e0
  clear hA0 hval0 hsz0
  obtain ⟨k, hk⟩ := Pure.FnExactRequestOK x0_0 x0_1 x0_2 x0_3 x0_4 gx0_0 gx0_1 gx0_2 gx0_3 gx0_4
  refine (laws_FnExactRequestOK.calls k x0_0 x0_1 x0_2 x0_3 x0_4 true W  hk).mono fun e W' ⟨he, bel⟩ => ?_
  subst he
  exact ⟨_, rfl, _, _, _, [], _, [], hW', trodAll_mk1 (shut_bool Try.underlying4 _), (trodAll_cons_mk (Below.trod laidOut (by kernel_rfl) (of_decide_eq_true (by kernel_rfl)) k0 bel lt0) trodAll_mk0), rfl, bel.frame _, fun h => by cases h⟩
theorem over : Rows.fnExactRequestOKRow.holds Try.pinned (OpenSpec.ofChange Rows.fnExactRequestOKSpec) :=
  OpenClaim.holds_of_wide 14 Try.f14 rfl rfl rfl rfl rfl rfl rfl ⟨rfl, rfl, rfl, rfl, rfl⟩ rfl rfl rfl rfl rfl (by kernel_rfl) Try.func14 (by kernel_rfl)
    (of_decide_eq_true (by kernel_rfl)) (by unfold Func.isWrapper; first | (rw [if_pos (by decide +kernel)]; kernel_rfl) | (rw [if_neg (by decide +kernel)]; exact ⟨rfl, rfl⟩))
    (fun os started H enc _ => lifted os started H enc)
theorem proved : Rows.FnExactRequestOKSaid := over
end Go.Proofs.Ytngeekijgphnjaa.fnExactRequestOK
namespace Go.Proofs.Ytngeekijgphnjaa
/-- The row, under a short name, for the claim. -/
theorem fnExactRequestOK_holds : Rows.FnExactRequestOKSaid := fnExactRequestOK.proved
#print axioms fnExactRequestOK_holds
end Go.Proofs.Ytngeekijgphnjaa
