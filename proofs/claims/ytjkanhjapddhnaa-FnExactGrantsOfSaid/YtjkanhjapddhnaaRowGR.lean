/- The statement FnExactGrantsOf, out of its pure law and the walk of its functions; no condition. -/
import Derived.Test.YtjkanhjapddhnaaRows
import Derived.Test.YtjkanhjapddhnaaLawGR
import Derived.Test.YtjkanhjapddhnaaPureFnExactGrantsOf
import Derived.Test.YtjkanhjapddhnaaOpens
import Derived.WalkKit
import Derived.ProofKit
import Derived.OpenShut
import Derived.ShutString
import Derived.ChangeOld
import Derived.Below
import Derived.SizedLaws
namespace Go.Proofs.Ytjkanhjapddhnaa.fnExactGrantsOf
open Go.ChangeShapes Go.WideShapes Go.ChangeAt Go.RowKit Go.Proofs.YtjkanhjapddhnaaO Go.Proofs.Ytjkanhjapddhnaa.PFnExactRunRequests Go.Proofs.Ytjkanhjapddhnaa.LawGR Go.Proofs.YtjkanhjapddhnaaV.PrintWords
open Go.ChangeMaps (open_string shut_string)
set_option linter.unusedVariables false
theorem own : ownKnob Try.prog.godebug = none := by kernel_rfl
theorem laidOut : laidOutB Try.prog = true := by kernel_rfl
def goodQ (x : S90) : Prop := ((Lit.int .i64 x.f0).wf = true) ∧ ((Lit.int .i64 x.f1).wf = true) ∧ ((Lit.int .i64 x.f2).wf = true) ∧ ((Lit.int .i64 x.f3).wf = true) ∧ (x.f4.size ≤ 9223372036854775807)
theorem opnQ : Opn Try.prog 90 k90 goodQ := Opn.mono (Opn.iso (Opn.struct Try.underlying90 (OpnF.cons (Opn.int Try.underlying3) rfl (by kernel_rfl) rfl (OpnF.cons (Opn.int Try.underlying3) rfl (by kernel_rfl) rfl (OpnF.cons (Opn.int Try.underlying3) rfl (by kernel_rfl) rfl (OpnF.cons (Opn.int Try.underlying3) rfl (by kernel_rfl) rfl (OpnF.one (Opn.string Try.underlying9) rfl (by kernel_rfl)))))) (by kernel_rfl)) (fun x : S90 => (x.f0, x.f1, x.f2, x.f3, x.f4)) (fun x => ⟨x.1, x.2.1, x.2.2.1, x.2.2.2.1, x.2.2.2.2⟩) (fun _ => rfl)) (fun _ h => h)
set_option maxRecDepth 100000 in
theorem lifted (os : Os) (started : os.Started) (H : Type) (enc : TypeId × Value → H) :
    ReturnsInHanded {} Try.checked os 6 .any (Rows.fnExactGrantsOfSpec.pre6 enc Try.prog Try.f6 Rows.fnExactGrantsOfRow.domain false) (Rows.fnExactGrantsOfSpec.post enc Try.prog Try.f6 false true false false) := by
  refine returnsInHanded_of_change_sized (C := Try.checked) own started (by kernel_rfl) Try.func6
    (ChangeSpec.witness6 (enc := enc) (C := Try.checked) false ⟨#[], #[.slice none 0 0, .slice none 0 0], []⟩ 8 (by kernel_rfl) (by kernel_rfl) (by kernel_rfl) (by kernel_rfl)) ?_
  intro W base args ds gs before hval0 hW hcnd hsz0 _
  have hval : ∀ (j : Nat) t v, Try.f6.params[j]? = some t → args[j]? = some v → Value.okWide Try.prog W .any base t v := hval0
  have hW' := hW
  obtain ⟨p, q, hA0, hV, rfl, hfz, hnd⟩ := hW
  have hA : DataW.TrodAll enc Try.prog W 0 (fun _ => true) true Try.f6.params.toList args.toList ds p := hA0
  rw [Try.params6] at hA hval
  obtain ⟨v0, vs0, d0, ds0, p0, q0, hargs, rfl, rfl, h0, r0⟩ := trodAll_cons hA
  obtain ⟨v1, vs1, d1, ds1, p1, q1, rfl, rfl, rfl, h1, r1⟩ := trodAll_cons r0
  obtain ⟨rfl, rfl, rfl⟩ := trodAll_nil r1
  obtain rfl : args = #[v0, v1] := by cases args; simp_all
  obtain ⟨rfl, rfl⟩ := trodVars_none hV
  have k0 := h0
  have lt0 : ∀ x ∈ p0, x.block < W.heap.size := by obtain ⟨m, hm⟩ := k0; exact DataW.trod_lt m _ _ _ hm
  obtain ⟨x0, ⟨Ax0, cx0, e0, hlx0, hCx0⟩, gx0⟩ := Opn.at_ (Opn.slice Try.underlying44 opnQ (by kernel_rfl)) h0
  obtain rfl := slice_of Try.underlying44 (hval 0 44 v0 rfl rfl) e0
  have k1 := h1
  have lt1 : ∀ x ∈ p1, x.block < W.heap.size := by obtain ⟨m, hm⟩ := k1; exact DataW.trod_lt m _ _ _ hm
  obtain ⟨x1, ⟨Ax1, cx1, e1, hlx1, hCx1⟩, gx1⟩ := Opn.at_ (Opn.slice Try.underlying45 (Opn.int Try.underlying3) (by kernel_rfl)) h1
  obtain rfl := slice_of Try.underlying45 (hval 1 45 v1 rfl rfl) e1
  clear hA0 hval0 hsz0
  have hc : Calls Try.prog 6 #[.slice Ax0 x0.length cx0, .slice Ax1 x1.length cx1] W fun e w' => e = .returned (.bool true) ∧ Below W.heap.size W w' := by
    obtain ⟨k, h | ⟨r, m, mt, g1, g2, g3, g4, g5, g6, g7, g8, g9, g10⟩⟩ := Pure.FnExactGrantsOf x0 x1 gx0.1 (fun y hy => (gx0.2 y hy).2.2.2.2)
    · exact lawG_neg k Ax0 cx0 x0 Ax1 cx1 x1 W hCx0 hlx0 h
    · exact lawG_pos k Ax0 cx0 x0 Ax1 cx1 x1 r m mt W hCx0 hlx0 hCx1 hlx1 g1 g2 g3 g4 g5 g6 g7 g8 g9 g10
  refine hc.mono fun e W' ⟨he, bel⟩ => ?_
  subst he
  exact ⟨_, rfl, _, _, _, [], _, [], hW', trodAll_mk1 (shut_bool Try.underlying4 _), (trodAll_cons_mk (Below.trod laidOut (by kernel_rfl) (of_decide_eq_true (by kernel_rfl)) k0 bel lt0) (trodAll_cons_mk (Below.trod laidOut (by kernel_rfl) (of_decide_eq_true (by kernel_rfl)) k1 bel lt1) trodAll_mk0)), rfl, bel.frame _, fun h => by cases h⟩
theorem over : Rows.fnExactGrantsOfRow.holds Try.pinned (OpenSpec.ofChange Rows.fnExactGrantsOfSpec) :=
  OpenClaim.holds_of_wide 6 Try.f6 rfl rfl rfl rfl rfl rfl rfl ⟨rfl, rfl, rfl, rfl, rfl⟩ rfl rfl rfl rfl rfl (by kernel_rfl) Try.func6 (by kernel_rfl)
    (of_decide_eq_true (by kernel_rfl)) (by unfold Func.isWrapper; first | (rw [if_pos (by decide +kernel)]; kernel_rfl) | (rw [if_neg (by decide +kernel)]; exact ⟨rfl, rfl⟩))
    (fun os started H enc _ => lifted os started H enc)
theorem proved : Rows.FnExactGrantsOfSaid := over
end Go.Proofs.Ytjkanhjapddhnaa.fnExactGrantsOf
namespace Go.Proofs.Ytjkanhjapddhnaa
/-- The row, under a short name, for the claim. -/
theorem fnExactGrantsOf_holds : Rows.FnExactGrantsOfSaid := fnExactGrantsOf.proved
#print axioms fnExactGrantsOf_holds
end Go.Proofs.Ytjkanhjapddhnaa
