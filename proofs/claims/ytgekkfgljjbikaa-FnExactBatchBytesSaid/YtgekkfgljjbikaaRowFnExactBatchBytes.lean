/- The statement FnExactBatchBytes, out of its pure law and the walk of its functions; no condition. -/
import Derived.Test.YtgekkfgljjbikaaRows
import Derived.Test.YtgekkfgljjbikaaPFnExactBatchBytesx12
import Derived.Test.YtgekkfgljjbikaaPureFnExactBatchBytes
import Derived.Test.YtgekkfgljjbikaaOpens
import Derived.WalkKit
import Derived.ProofKit
import Derived.OpenShut
import Derived.ShutString
import Derived.ChangeOld
import Derived.Below
import Derived.SizedLaws
namespace Go.Proofs.Ytgekkfgljjbikaa.fnExactBatchBytes
open Go.ChangeShapes Go.WideShapes Go.ChangeAt Go.RowKit Go.Proofs.YtgekkfgljjbikaaO Go.Proofs.Ytgekkfgljjbikaa.PFnExactBatchBytes Go.Proofs.YtgekkfgljjbikaaV.PrintWords
open Go.ChangeMaps (open_string shut_string)
set_option linter.unusedVariables false
theorem own : ownKnob Try.prog.godebug = none := by kernel_rfl
theorem laidOut : laidOutB Try.prog = true := by kernel_rfl
def good135 (x : S135) : Prop := ((Lit.int .i64 x.f0).wf = true) ∧ ((Lit.int .i64 x.f1).wf = true) ∧ x.f2.size ≤ 9223372036854775807
theorem opn135 : Opn Try.prog 135 k135 good135 := Opn.mono (Opn.iso (Opn.struct Try.underlying135 (OpnF.cons (Opn.int Try.underlying3) rfl (by kernel_rfl) rfl (OpnF.cons (Opn.int Try.underlying3) rfl (by kernel_rfl) rfl (OpnF.one (Opn.string Try.underlying9) rfl (by kernel_rfl)))) (by kernel_rfl)) (fun x : S135 => (x.f0, x.f1, x.f2)) (fun x => ⟨x.1, x.2.1, x.2.2⟩) (fun _ => rfl)) (fun _ h => h)
set_option maxRecDepth 100000 in
theorem lifted (os : Os) (started : os.Started) (H : Type) (enc : TypeId × Value → H) :
    ReturnsInHanded {} Try.checked os 11 .any (Rows.fnExactBatchBytesSpec.pre6 enc Try.prog Try.f11 Rows.fnExactBatchBytesRow.domain false) (Rows.fnExactBatchBytesSpec.post enc Try.prog Try.f11 false true false false) := by
  refine returnsInHanded_of_change_sized (C := Try.checked) own started (by kernel_rfl) Try.func11
    (ChangeSpec.witness6 (enc := enc) (C := Try.checked) false ⟨#[], #[.agg #[.bool false, .int .i64 0, .int .i64 0, .int .i64 0, .int .i64 0, .string ByteArray.empty, .slice none 0 0]], []⟩ 8 (by kernel_rfl) (by kernel_rfl) (by kernel_rfl) (by kernel_rfl)) ?_
  intro W base args ds gs before hval0 hW hcnd hsz0 _
  have hval : ∀ (j : Nat) t v, Try.f11.params[j]? = some t → args[j]? = some v → Value.okWide Try.prog W .any base t v := hval0
  have hW' := hW
  obtain ⟨p, q, hA0, hV, rfl, hfz, hnd⟩ := hW
  have hA : DataW.TrodAll enc Try.prog W 0 (fun _ => true) true Try.f11.params.toList args.toList ds p := hA0
  rw [Try.params11] at hA hval
  obtain ⟨v0, vs0, d0, ds0, p0, q0, hargs, rfl, rfl, h0, r0⟩ := trodAll_cons hA
  obtain ⟨rfl, rfl, rfl⟩ := trodAll_nil r0
  obtain rfl : args = #[v0] := by cases args; simp_all
  obtain ⟨rfl, rfl⟩ := trodVars_none hV
  have k0 := h0
  have lt0 : ∀ x ∈ p0, x.block < W.heap.size := by obtain ⟨m, hm⟩ := k0; exact DataW.trod_lt m _ _ _ hm
  obtain ⟨⟨x0_0, ⟨⟨x0_1, ⟨x0_2, ⟨x0_3, ⟨x0_4, x0_5⟩⟩⟩⟩, x0_6⟩⟩, ⟨_, _, e0, rfl, ⟨_, _, rfl, ⟨_, _, rfl, rfl, ⟨_, _, rfl, rfl, ⟨_, _, rfl, rfl, ⟨_, _, rfl, rfl, rfl⟩⟩⟩⟩, ⟨Ax0_6, cx0_6, rfl, hlx0_6, hCx0_6⟩⟩⟩, ⟨gx0_0, ⟨⟨gx0_1, ⟨gx0_2, ⟨gx0_3, ⟨gx0_4, gx0_5⟩⟩⟩⟩, gx0_6⟩⟩⟩ := Opn.at_ (Opn.struct Try.underlying55 (OpnF.cons (Opn.bool Try.underlying4) rfl (by kernel_rfl) rfl (OpnF.cons (Opn.struct Try.underlying41 (OpnF.cons (Opn.int Try.underlying3) rfl (by kernel_rfl) rfl (OpnF.cons (Opn.int Try.underlying3) rfl (by kernel_rfl) rfl (OpnF.cons (Opn.int Try.underlying3) rfl (by kernel_rfl) rfl (OpnF.cons (Opn.int Try.underlying3) rfl (by kernel_rfl) rfl (OpnF.one (Opn.string Try.underlying9) rfl (by kernel_rfl)))))) (by kernel_rfl)) rfl (by kernel_rfl) rfl (OpnF.one (Opn.slice Try.underlying53 opn135 (by kernel_rfl)) rfl (by kernel_rfl)))) (by kernel_rfl)) h0
  obtain rfl : v0 = .agg #[.bool x0_0, .int .i64 x0_1, .int .i64 x0_2, .int .i64 x0_3, .int .i64 x0_4, .string x0_5, .slice Ax0_6 x0_6.length cx0_6] := agg_of Try.underlying55 (hval 0 55 v0 rfl rfl) e0
  clear hA0 hval0 hsz0
  obtain ⟨k, hk⟩ := Pure.FnExactBatchBytes x0_0 x0_1 x0_2 x0_3 x0_4 x0_5 x0_6 gx0_1 gx0_2 gx0_3 gx0_4 gx0_5 gx0_6
  refine (laws_FnExactBatchBytes.calls k x0_0 x0_1 x0_2 x0_3 x0_4 x0_5 Ax0_6 cx0_6 x0_6 true W hCx0_6 hlx0_6 hk).mono fun e W' ⟨he, bel⟩ => ?_
  subst he
  exact ⟨_, rfl, _, _, _, [], _, [], hW', trodAll_mk1 (shut_bool Try.underlying4 _), (trodAll_cons_mk (Below.trod laidOut (by kernel_rfl) (of_decide_eq_true (by kernel_rfl)) k0 bel lt0) trodAll_mk0), rfl, bel.frame _, fun h => by cases h⟩
theorem over : Rows.fnExactBatchBytesRow.holds Try.pinned (OpenSpec.ofChange Rows.fnExactBatchBytesSpec) :=
  OpenClaim.holds_of_wide 11 Try.f11 rfl rfl rfl rfl rfl rfl rfl ⟨rfl, rfl, rfl, rfl, rfl⟩ rfl rfl rfl rfl rfl (by kernel_rfl) Try.func11 (by kernel_rfl)
    (of_decide_eq_true (by kernel_rfl)) (by unfold Func.isWrapper; first | (rw [if_pos (by decide +kernel)]; kernel_rfl) | (rw [if_neg (by decide +kernel)]; exact ⟨rfl, rfl⟩))
    (fun os started H enc _ => lifted os started H enc)
theorem proved : Rows.FnExactBatchBytesSaid := over
end Go.Proofs.Ytgekkfgljjbikaa.fnExactBatchBytes
namespace Go.Proofs.Ytgekkfgljjbikaa
/-- The row, under a short name, for the claim. -/
theorem fnExactBatchBytes_holds : Rows.FnExactBatchBytesSaid := fnExactBatchBytes.proved
#print axioms fnExactBatchBytes_holds
end Go.Proofs.Ytgekkfgljjbikaa
