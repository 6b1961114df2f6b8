/- The statement FnExactRunRequests, out of its pure law and the walk of its functions; no condition. -/
-- squeezed
import Derived.Test.YtjkanhjapddhnaaRows
import Derived.Test.YtjkanhjapddhnaaLawRR
import Derived.Test.YtjkanhjapddhnaaPureFnExactRunRequests
import Derived.Test.YtjkanhjapddhnaaOpens
import Derived.WalkKit
import Derived.ProofKit
import Derived.OpenShut
import Derived.ShutString
import Derived.ChangeOld
import Derived.Below
import Derived.SizedLaws
namespace Go.Proofs.Ytjkanhjapddhnaa.fnExactRunRequests
open Go.ChangeShapes Go.WideShapes Go.ChangeAt Go.RowKit Go.Proofs.YtjkanhjapddhnaaO Go.Proofs.Ytjkanhjapddhnaa.PFnExactRunRequests Go.Proofs.Ytjkanhjapddhnaa.LawRR Go.Proofs.YtjkanhjapddhnaaV.PrintWords
open Go.ChangeMaps (open_string shut_string)
set_option linter.unusedVariables false
theorem own : ownKnob Try.prog.godebug = none:=by kernel_rfl
theorem laidOut : laidOutB Try.prog = true:=by kernel_rfl
def goodQ (x : S90) : Prop:=((Lit.int .i64 x.f0).wf = true) ∧ ((Lit.int .i64 x.f1).wf = true) ∧ ((Lit.int .i64 x.f2).wf = true) ∧ ((Lit.int .i64 x.f3).wf = true) ∧ (x.f4.size ≤ 9223372036854775807)
theorem opnQ : Opn Try.prog 90 k90 goodQ:=Opn.mono (Opn.iso (Opn.struct Try.underlying90 (OpnF.cons (Opn.int Try.underlying3) rfl (by kernel_rfl) rfl (OpnF.cons (Opn.int Try.underlying3) rfl (by kernel_rfl) rfl (OpnF.cons (Opn.int Try.underlying3) rfl (by kernel_rfl) rfl (OpnF.cons (Opn.int Try.underlying3) rfl (by kernel_rfl) rfl (OpnF.one (Opn.string Try.underlying9) rfl (by kernel_rfl)))))) (by kernel_rfl)) (fun x : S90 => (x.f0,x.f1,x.f2,x.f3,x.f4)) (fun x => ⟨x.1,x.2.1,x.2.2.1,x.2.2.2.1,x.2.2.2.2⟩) (fun _ => rfl)) (fun _ h => h)
set_option maxRecDepth 100000 in
theorem lifted (os : Os) (started : os.Started) (H : Type) (enc : TypeId × Value → H) :
  ReturnsInHanded {} Try.checked os 7 .any (Rows.fnExactRunRequestsSpec.pre6 enc Try.prog Try.f7 Rows.fnExactRunRequestsRow.domain false) (Rows.fnExactRunRequestsSpec.post enc Try.prog Try.f7 false true false false):=by
 refine returnsInHanded_of_change_sized (C:=Try.checked) own started (by kernel_rfl) Try.func7
  (ChangeSpec.witness6 (enc:=enc) (C:=Try.checked) false ⟨#[],#[.slice none 0 0,.slice none 0 0],[]⟩ 8 (by kernel_rfl) (by kernel_rfl) (by kernel_rfl) (by kernel_rfl)) ?_
 intro W base args ds gs before hval0 hW hcnd hsz0 _
 have hval : ∀ (j : Nat) t v,Try.f7.params[j]? = some t → args[j]? = some v → Value.okWide Try.prog W .any base t v:=hval0
 have hW':=hW
 obtain ⟨p,q,hA0,hV,rfl,hfz,hnd⟩:=hW
 have hA : DataW.TrodAll enc Try.prog W 0 (fun _ => true) true Try.f7.params.toList args.toList ds p:=hA0
 rw [Try.params7] at hA hval
 obtain ⟨v0,vs0,d0,ds0,p0,q0,hargs,rfl,rfl,h0,r0⟩:=trodAll_cons hA
 obtain ⟨v1,vs1,d1,ds1,p1,q1,rfl,rfl,rfl,h1,r1⟩:=trodAll_cons r0
 obtain ⟨rfl,rfl,rfl⟩:=trodAll_nil r1
 obtain rfl : args = #[v0,v1]:=by cases args;simp_all
 obtain ⟨rfl,rfl⟩:=trodVars_none hV
 have k0:=h0
 have lt0 : ∀ x ∈ p0,x.block < W.heap.size:=by obtain ⟨m,hm⟩:=k0;exact DataW.trod_lt m _ _ _ hm
 obtain ⟨x0,⟨Ax0,cx0,e0,hlx0,hCx0⟩,gx0⟩:=Opn.at_ (Opn.slice Try.underlying44 opnQ (by kernel_rfl)) h0
 obtain rfl:=slice_of Try.underlying44 (hval 0 44 v0 rfl rfl) e0
 have k1:=h1
 have lt1 : ∀ x ∈ p1,x.block < W.heap.size:=by obtain ⟨m,hm⟩:=k1;exact DataW.trod_lt m _ _ _ hm
 obtain ⟨x1,⟨Ax1,cx1,e1,hlx1,hCx1⟩,gx1⟩:=Opn.at_ (Opn.slice Try.underlying45 (Opn.int Try.underlying3) (by kernel_rfl)) h1
 obtain rfl:=slice_of Try.underlying45 (hval 1 45 v1 rfl rfl) e1
 clear hA0 hval0 hsz0
 have hc : Calls Try.prog 7 #[.slice Ax0 x0.length cx0,.slice Ax1 x1.length cx1] W fun e w' => e = .returned (.bool true) ∧ Below W.heap.size W w':=by
  obtain ⟨k,h|⟨r,m,mt,g1,g2,g3,g4,g5,g6,g7,g8,g9,g10,g11⟩⟩:=Pure.FnExactRunRequests x0 x1 gx0.1 (fun y hy => (gx0.2 y hy).2.2.2.2)
  ·
   exact law_neg k Ax0 cx0 x0 Ax1 cx1 x1 W hCx0 hlx0 h
  ·
   exact law_pos k Ax0 cx0 x0 Ax1 cx1 x1 r m mt W hCx0 hlx0 hCx1 hlx1 g1 g2 g3 g4 g5 g6 g7 g8 g9 g10 g11
 refine hc.mono fun e W' ⟨he,bel⟩ => ?_
 subst he
 exact ⟨_,rfl,_,_,_,[],_,[],hW',trodAll_mk1 (shut_bool Try.underlying4 _),(trodAll_cons_mk (Below.trod laidOut (by kernel_rfl) (of_decide_eq_true (by kernel_rfl)) k0 bel lt0) (trodAll_cons_mk (Below.trod laidOut (by kernel_rfl) (of_decide_eq_true (by kernel_rfl)) k1 bel lt1) trodAll_mk0)),rfl,bel.frame _,fun h => by cases h⟩
theorem over : Rows.fnExactRunRequestsRow.holds Try.pinned (OpenSpec.ofChange Rows.fnExactRunRequestsSpec) :=
 OpenClaim.holds_of_wide 7 Try.f7 rfl rfl rfl rfl rfl rfl rfl ⟨rfl,rfl,rfl,rfl,rfl⟩ rfl rfl rfl rfl rfl (by kernel_rfl) Try.func7 (by kernel_rfl)
  (of_decide_eq_true (by kernel_rfl)) (by unfold Func.isWrapper;first|(rw [if_pos (by decide +kernel)];kernel_rfl)|(rw [if_neg (by decide +kernel)];exact ⟨rfl,rfl⟩))
  (fun os started H enc _ => lifted os started H enc)
theorem proved : Rows.FnExactRunRequestsSaid:=over
end Go.Proofs.Ytjkanhjapddhnaa.fnExactRunRequests
namespace Go.Proofs.Ytjkanhjapddhnaa
theorem fnExactRunRequests_holds : Rows.FnExactRunRequestsSaid:=fnExactRunRequests.proved
#print axioms fnExactRunRequests_holds
end Go.Proofs.Ytjkanhjapddhnaa
