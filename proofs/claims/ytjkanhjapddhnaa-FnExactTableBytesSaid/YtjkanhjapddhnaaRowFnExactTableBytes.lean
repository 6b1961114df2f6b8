/- The statement FnExactTableBytes, out of its pure law and the walk of its functions; no condition. -/
import Derived.Test.YtjkanhjapddhnaaRows
import Derived.Test.YtjkanhjapddhnaaLawTB
import Derived.Test.YtjkanhjapddhnaaPureFnExactTableBytes
import Derived.Test.YtjkanhjapddhnaaOpens
import Derived.WalkKit
import Derived.ProofKit
import Derived.OpenShut
import Derived.ShutString
import Derived.ChangeOld
import Derived.Below
import Derived.SizedLaws
namespace Go.Proofs.Ytjkanhjapddhnaa.fnExactTableBytes
open Go.ChangeShapes Go.WideShapes Go.ChangeAt Go.RowKit Go.Proofs.YtjkanhjapddhnaaO Go.Proofs.Ytjkanhjapddhnaa.PFnExactTableBytes Go.Proofs.YtjkanhjapddhnaaV.PrintWords
open Go.ChangeMaps (open_string shut_string)
set_option linter.unusedVariables false
theorem own : ownKnob Try.prog.godebug = none := by kernel_rfl
theorem laidOut : laidOutB Try.prog = true := by kernel_rfl
def good160 (x : S160) : Prop := ((Lit.int .i64 x.f0).wf = true) ∧ (Lit.int .i64 x.f1).wf = true
theorem opn160 : Opn Try.prog 160 k160 good160 := Opn.mono (Opn.iso (Opn.struct Try.underlying160 (OpnF.cons (Opn.int Try.underlying3) rfl (by kernel_rfl) rfl (OpnF.one (Opn.int Try.underlying3) rfl (by kernel_rfl))) (by kernel_rfl)) (fun x : S160 => (x.f0, x.f1)) (fun x => ⟨x.1, x.2⟩) (fun _ => rfl)) (fun _ h => h)
def good110 (x : S110) : Prop := (x.f0.size ≤ 9223372036854775807) ∧ ((Lit.int .i64 x.f1).wf = true) ∧ ((Lit.int .i64 x.f2).wf = true) ∧ ((Lit.int .i64 x.f3).wf = true) ∧ (x.f4.length ≤ 9223372036854775807 ∧ ∀ y ∈ x.f4, good160 y)
theorem opn110 : Opn Try.prog 110 k110 good110 := Opn.mono (Opn.iso (Opn.struct Try.underlying110 (OpnF.cons (Opn.string Try.underlying9) rfl (by kernel_rfl) rfl (OpnF.cons (Opn.int Try.underlying3) rfl (by kernel_rfl) rfl (OpnF.cons (Opn.int Try.underlying3) rfl (by kernel_rfl) rfl (OpnF.cons (Opn.int Try.underlying3) rfl (by kernel_rfl) rfl (OpnF.one (Opn.slice Try.underlying108 opn160 (by kernel_rfl)) rfl (by kernel_rfl)))))) (by kernel_rfl)) (fun x : S110 => (x.f0, x.f1, x.f2, x.f3, x.f4)) (fun x => ⟨x.1, x.2.1, x.2.2.1, x.2.2.2.1, x.2.2.2.2⟩) (fun _ => rfl)) (fun _ h => h)
def good114 (x : S114) : Prop := ((Lit.int .i64 x.f0).wf = true) ∧ ((Lit.int .i64 x.f1).wf = true) ∧ ((Lit.int .i64 x.f2).wf = true) ∧ (Lit.int .i64 x.f3).wf = true
theorem opn114 : Opn Try.prog 114 k114 good114 := Opn.mono (Opn.iso (Opn.struct Try.underlying114 (OpnF.cons (Opn.int Try.underlying3) rfl (by kernel_rfl) rfl (OpnF.cons (Opn.int Try.underlying3) rfl (by kernel_rfl) rfl (OpnF.cons (Opn.int Try.underlying3) rfl (by kernel_rfl) rfl (OpnF.one (Opn.int Try.underlying3) rfl (by kernel_rfl))))) (by kernel_rfl)) (fun x : S114 => (x.f0, x.f1, x.f2, x.f3)) (fun x => ⟨x.1, x.2.1, x.2.2.1, x.2.2.2⟩) (fun _ => rfl)) (fun _ h => h)
def good116 (x : S116) : Prop := ((Lit.int .i64 x.f0).wf = true) ∧ ((Lit.int .i64 x.f1).wf = true) ∧ good114 x.f2
theorem opn116 : Opn Try.prog 116 k116 good116 := Opn.mono (Opn.iso (Opn.struct Try.underlying116 (OpnF.cons (Opn.int Try.underlying3) rfl (by kernel_rfl) rfl (OpnF.cons (Opn.int Try.underlying3) rfl (by kernel_rfl) rfl (OpnF.one opn114 rfl (by kernel_rfl)))) (by kernel_rfl)) (fun x : S116 => (x.f0, x.f1, x.f2)) (fun x => ⟨x.1, x.2.1, x.2.2⟩) (fun _ => rfl)) (fun _ h => h)
set_option maxRecDepth 100000 in
theorem lifted (os : Os) (started : os.Started) (H : Type) (enc : TypeId × Value → H) :
    ReturnsInHanded {} Try.checked os 5 .any (Rows.fnExactTableBytesSpec.pre6 enc Try.prog Try.f5 Rows.fnExactTableBytesRow.domain false) (Rows.fnExactTableBytesSpec.post enc Try.prog Try.f5 false true false false) := by
  refine returnsInHanded_of_change_sized (C := Try.checked) own started (by kernel_rfl) Try.func5
    (ChangeSpec.witness6 (enc := enc) (C := Try.checked) false ⟨#[], #[.agg #[.int .i64 0, .int .i64 0, .slice none 0 0, .slice none 0 0]], []⟩ 8 (by kernel_rfl) (by kernel_rfl) (by kernel_rfl) (by kernel_rfl)) ?_
  intro W base args ds gs before hval0 hW hcnd hsz0 _
  have hval : ∀ (j : Nat) t v, Try.f5.params[j]? = some t → args[j]? = some v → Value.okWide Try.prog W .any base t v := hval0
  have hW' := hW
  obtain ⟨p, q, hA0, hV, rfl, hfz, hnd⟩ := hW
  have hA : DataW.TrodAll enc Try.prog W 0 (fun _ => true) true Try.f5.params.toList args.toList ds p := hA0
  rw [Try.params5] at hA hval
  obtain ⟨v0, vs0, d0, ds0, p0, q0, hargs, rfl, rfl, h0, r0⟩ := trodAll_cons hA
  obtain ⟨rfl, rfl, rfl⟩ := trodAll_nil r0
  obtain rfl : args = #[v0] := by cases args; simp_all
  obtain ⟨rfl, rfl⟩ := trodVars_none hV
  have k0 := h0
  have lt0 : ∀ x ∈ p0, x.block < W.heap.size := by obtain ⟨m, hm⟩ := k0; exact DataW.trod_lt m _ _ _ hm
  obtain ⟨⟨x0_0, ⟨x0_1, ⟨x0_2, x0_3⟩⟩⟩, ⟨_, _, e0, rfl, ⟨_, _, rfl, rfl, ⟨_, _, rfl, ⟨Ax0_2, cx0_2, rfl, hlx0_2, hCx0_2⟩, ⟨Ax0_3, cx0_3, rfl, hlx0_3, hCx0_3⟩⟩⟩⟩, ⟨gx0_0, ⟨gx0_1, ⟨gx0_2, gx0_3⟩⟩⟩⟩ := Opn.at_ (Opn.struct Try.underlying25 (OpnF.cons (Opn.int Try.underlying3) rfl (by kernel_rfl) rfl (OpnF.cons (Opn.int Try.underlying3) rfl (by kernel_rfl) rfl (OpnF.cons (Opn.slice Try.underlying22 opn110 (by kernel_rfl)) rfl (by kernel_rfl) rfl (OpnF.one (Opn.slice Try.underlying23 opn116 (by kernel_rfl)) rfl (by kernel_rfl))))) (by kernel_rfl)) h0
  obtain rfl : v0 = .agg #[.int .i64 x0_0, .int .i64 x0_1, .slice Ax0_2 x0_2.length cx0_2, .slice Ax0_3 x0_3.length cx0_3] := agg_of Try.underlying25 (hval 0 25 v0 rfl rfl) e0
  clear hA0 hval0 hsz0
  have hc : Calls Try.prog 5 #[.agg #[.int .i64 x0_0, .int .i64 x0_1, .slice Ax0_2 x0_2.length cx0_2, .slice Ax0_3 x0_3.length cx0_3]] W fun e w' => e = .returned (.bool true) ∧ Below W.heap.size W w' := by
    obtain ⟨k, r, h1, hneg | ⟨hpos, m2, m3, bs, cd, ms, m, mt, h2, h3, h4, h5, h6, h7, hm, h8, hz⟩⟩ := Pure.FnExactTableBytes x0_0 x0_1 x0_2 x0_3 gx0_2 gx0_3.1
    · exact law_neg k x0_0 x0_1 Ax0_2 cx0_2 x0_2 Ax0_3 cx0_3 x0_3 r W hCx0_2 hlx0_2 hCx0_3 hlx0_3 h1 hneg
    · exact law_pos k x0_0 x0_1 Ax0_2 cx0_2 x0_2 Ax0_3 cx0_3 x0_3 r m2 m3 bs cd ms m mt W hCx0_2 hlx0_2 hCx0_3 hlx0_3 h1 hpos h2 h3 h4 h5 h6 h7 hm h8 hz
  refine hc.mono fun e W' ⟨he, bel⟩ => ?_
  subst he
  exact ⟨_, rfl, _, _, _, [], _, [], hW', trodAll_mk1 (shut_bool Try.underlying4 _), (trodAll_cons_mk (Below.trod laidOut (by kernel_rfl) (of_decide_eq_true (by kernel_rfl)) k0 bel lt0) trodAll_mk0), rfl, bel.frame _, fun h => by cases h⟩
theorem over : Rows.fnExactTableBytesRow.holds Try.pinned (OpenSpec.ofChange Rows.fnExactTableBytesSpec) :=
  OpenClaim.holds_of_wide 5 Try.f5 rfl rfl rfl rfl rfl rfl rfl ⟨rfl, rfl, rfl, rfl, rfl⟩ rfl rfl rfl rfl rfl (by kernel_rfl) Try.func5 (by kernel_rfl)
    (of_decide_eq_true (by kernel_rfl)) (by unfold Func.isWrapper; first | (rw [if_pos (by decide +kernel)]; kernel_rfl) | (rw [if_neg (by decide +kernel)]; exact ⟨rfl, rfl⟩))
    (fun os started H enc _ => lifted os started H enc)
theorem proved : Rows.FnExactTableBytesSaid := over
end Go.Proofs.Ytjkanhjapddhnaa.fnExactTableBytes
namespace Go.Proofs.Ytjkanhjapddhnaa
/-- The row, under a short name, for the claim. -/
theorem fnExactTableBytes_holds : Rows.FnExactTableBytesSaid := fnExactTableBytes.proved
#print axioms fnExactTableBytes_holds
end Go.Proofs.Ytjkanhjapddhnaa
