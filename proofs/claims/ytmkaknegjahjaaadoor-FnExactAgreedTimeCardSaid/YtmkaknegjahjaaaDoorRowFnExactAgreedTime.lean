/- The statement FnExactAgreedTime, out of its pure law and the walk of its functions; no condition. -/
import Derived.Test.YtmkaknegjahjaaaDoorRows
import Derived.Test.YtmkaknegjahjaaaDoorPFnExactAgreedTimex6
import Derived.Test.YtmkaknegjahjaaaDoorPureFnExactAgreedTime
import Derived.Test.YtmkaknegjahjaaaDoorOpens
import Derived.WalkKit
import Derived.ProofKit
import Derived.OpenShut
import Derived.ShutString
import Derived.ChangeOld
import Derived.Below
import Derived.SizedLaws
import Derived.OpenVars
import Derived.ChangeVars
import Derived.LaidMore
import Derived.Stop.Joined
import Derived.SevenTiedAt
import Derived.Test.YtmkaknegjahjaaaDoorTie
import Derived.Test.YtmkaknegjahjaaaDoorCards
import Derived.Test.YtmkaknegjahjaaaDoorGlob
namespace Go.Proofs.YtmkaknegjahjaaaDoor.fnExactAgreedTime
open Go.ChangeShapes Go.WideShapes Go.ChangeAt Go.RowKit Go.Proofs.YtmkaknegjahjaaaDoorO Go.Proofs.YtmkaknegjahjaaaDoor.PFnExactAgreedTime Go.Proofs.YtmkaknegjahjaaaDoorV.PrintWords Go.Proofs.YtmkaknegjahjaaaDoor.Sha
open Go.ChangeMaps (open_string shut_string)
set_option linter.unusedVariables false
theorem own : ownKnob Tryd.prog.godebug = none := by kernel_rfl
theorem laidOut : laidOutB Tryd.prog = true := by kernel_rfl
def good104 (x : S104) : Prop := ((Lit.int .i64 x.f0).wf = true) ∧ ((Lit.int .i64 x.f1).wf = true) ∧ x.f2.size ≤ 9223372036854775807
theorem opn104 : Opn Tryd.prog 104 k104 good104 := Opn.mono (Opn.iso (Opn.struct Tryd.underlying104 (OpnF.cons (Opn.int Tryd.underlying3) rfl (by kernel_rfl) rfl (OpnF.cons (Opn.int Tryd.underlying3) rfl (by kernel_rfl) rfl (OpnF.one (Opn.string Tryd.underlying9) rfl (by kernel_rfl)))) (by kernel_rfl)) (fun x : S104 => (x.f0, x.f1, x.f2)) (fun x => ⟨x.1, x.2.1, x.2.2⟩) (fun _ => rfl)) (fun _ h => h)
set_option maxRecDepth 100000 in
theorem lifted (os : Os) (started : os.Started) (H : Type) (enc : TypeId × Value → H) :
    ReturnsInHanded {} Tryd.checked os 8 .any (fun w args => (Rows.fnExactAgreedTimeSpec.pre enc Tryd.prog Tryd.f8 Rows.fnExactAgreedTimeRow.domain false w args ∧ laidMetH Tryd.prog Glob.L w) ∧ sizedMet enc Tryd.prog Tryd.f8 (OpenSpec.ofChange Rows.fnExactAgreedTimeSpec) false w args) (Rows.fnExactAgreedTimeSpec.post enc Tryd.prog Tryd.f8 false true false false) := by
  refine returnsInHanded_of_change_and (C := Tryd.checked) (X := fun w _ => laidMetH Tryd.prog Glob.L w) (fun _ _ _ hh h => h.of_heap hh) own started (by kernel_rfl) Tryd.func8
    (ChangeSpec.witness_shaped (enc := enc) (C := Tryd.checked) (os := os) (X := fun w _ => laidMetH Tryd.prog Glob.L w) false (World.doorLaid Tryd.prog 14 os) #[.int .i64 0, .int .i64 0, .slice none 0 0] 8 rfl (World.shaped_of_RefB (by kernel_rfl) (by kernel_rfl)) (by kernel_rfl) (by kernel_rfl) (by kernel_rfl) (Glob.door_met os _)) ?_
  intro W base args ds gs before hval0 hW hcnd hsz0 hL _
  have hG : GlobA W := Glob.glob_of hL
  have hval : ∀ (j : Nat) t v, Tryd.f8.params[j]? = some t → args[j]? = some v → Value.okWide Tryd.prog W .any base t v := hval0
  have hW' := hW
  obtain ⟨p, q, hA0, hV, rfl, hfz, hnd⟩ := hW
  have hA : DataW.TrodAll enc Tryd.prog W 0 (fun _ => true) true Tryd.f8.params.toList args.toList ds p := hA0
  rw [Tryd.params8] at hA hval
  obtain ⟨v0, vs0, d0, ds0, p0, q0, hargs, rfl, rfl, h0, r0⟩ := trodAll_cons hA
  obtain ⟨v1, vs1, d1, ds1, p1, q1, rfl, rfl, rfl, h1, r1⟩ := trodAll_cons r0
  obtain ⟨v2, vs2, d2, ds2, p2, q2, rfl, rfl, rfl, h2, r2⟩ := trodAll_cons r1
  obtain ⟨rfl, rfl, rfl⟩ := trodAll_nil r2
  obtain rfl : args = #[v0, v1, v2] := by cases args; simp_all
  obtain ⟨_, _, _, _, dv, _, hgs, _⟩ := trodVars_one (show DataW.TrodVars enc Tryd.prog W (fun _ => true) ["loop.example/g00292/impl.roundWords"] gs q from hV)
  subst hgs
  have k0 := h0
  have lt0 : ∀ x ∈ p0, x.block < W.heap.size := by obtain ⟨m, hm⟩ := k0; exact DataW.trod_lt m _ _ _ hm
  obtain ⟨x0, rfl, rfl, rfl, gx0⟩ := open_int Tryd.underlying3 (hval 0 3 v0 rfl rfl) h0
  have k1 := h1
  have lt1 : ∀ x ∈ p1, x.block < W.heap.size := by obtain ⟨m, hm⟩ := k1; exact DataW.trod_lt m _ _ _ hm
  obtain ⟨x1, rfl, rfl, rfl, gx1⟩ := open_int Tryd.underlying3 (hval 1 3 v1 rfl rfl) h1
  have k2 := h2
  have lt2 : ∀ x ∈ p2, x.block < W.heap.size := by obtain ⟨m, hm⟩ := k2; exact DataW.trod_lt m _ _ _ hm
  obtain ⟨x2, ⟨Ax2, cx2, e2, hlx2, hCx2⟩, gx2⟩ := Opn.at_ (Opn.slice Tryd.underlying57 opn104 (by kernel_rfl)) h2
  obtain rfl := slice_of Tryd.underlying57 (hval 2 57 v2 rfl rfl) e2
  clear hA0 hval0 hsz0
  obtain ⟨k, hk⟩ := Pure.FnExactAgreedTime x0 x1 x2 gx0 gx1 gx2
  refine (laws_FnExactAgreedTime.calls k x0 x1 Ax2 cx2 x2 true W hCx2 hlx2 hG rfl hk).mono fun e W' ⟨he, bel⟩ => ?_
  subst he
  exact ⟨_, rfl, _, _, _, [], _, _, hW', trodAll_mk1 (shut_bool Tryd.underlying4 _), (trodAll_cons_mk (Below.trod laidOut (by kernel_rfl) (of_decide_eq_true (by kernel_rfl)) k0 bel lt0) (trodAll_cons_mk (Below.trod laidOut (by kernel_rfl) (of_decide_eq_true (by kernel_rfl)) k1 bel lt1) (trodAll_cons_mk (Below.trod laidOut (by kernel_rfl) (of_decide_eq_true (by kernel_rfl)) k2 bel lt2) trodAll_mk0))), Below.trodVars laidOut bel (by kernel_rfl) hV, bel.frame _, fun h => by cases h⟩
theorem over : Rows.fnExactAgreedTimeRow.holds Tryd.pinned (OpenSpec.ofChange Rows.fnExactAgreedTimeSpec) :=
  OpenClaim.holds_of_wide 8 Tryd.f8 rfl rfl rfl rfl rfl rfl rfl ⟨rfl, rfl, rfl, rfl, rfl⟩ rfl rfl rfl rfl rfl (by kernel_rfl) Tryd.func8 (by kernel_rfl)
    (of_decide_eq_true (by kernel_rfl)) (by unfold Func.isWrapper; first | (rw [if_pos (by decide +kernel)]; kernel_rfl) | (rw [if_neg (by decide +kernel)]; exact ⟨rfl, rfl⟩))
    (fun os started H enc _ => lifted os started H enc)
theorem card : Rows.FnExactAgreedTimeCardSaid :=
  Claim7.holds_tied_plain_at .later [] [.data] true (true, "f826c8bcbfcd37441bd9634777cc90420b5f7f0b7ab6503daca6d284be377300") false
    over (fun _ h => by cases h) (by kernel_rfl) (fun _ h => by cases h) fnExactAgreedTime_row_tie rfl ⟨rfl, rfl⟩ (by kernel_rfl) rfl
    (fun f fn hf hfn => by
      obtain rfl : f = 8 := Option.some.inj ((show Tryd.prog.funcNamed "loop.example/g00292/laws.FnExactAgreedTime" = some 8 by kernel_rfl).symm.trans hf) |>.symm
      obtain rfl : fn = Tryd.f8 := (Option.some.inj (Tryd.func8.symm.trans hfn)).symm
      exact ⟨by kernel_rfl, fun j t ht => by
        rw [Tryd.params8] at ht
        have hm : t ∈ [3, 3, 57] := by simpa using Array.mem_of_getElem? ht
        have hall : ([3, 3, 57].all fun u => !Tryd.prog.wantsStandIn u) = true := by kernel_rfl
        exact (show Tryd.prog.wantsStandIn t = false by simpa using List.all_eq_true.1 hall t hm)⟩)
    (by kernel_rfl)
theorem proved : Rows.FnExactAgreedTimeCardSaid := card
end Go.Proofs.YtmkaknegjahjaaaDoor.fnExactAgreedTime
namespace Go.Proofs.YtmkaknegjahjaaaDoor
/-- The row, under a short name, for the claim. -/
theorem fnExactAgreedTime_card_holds : Rows.FnExactAgreedTimeCardSaid := fnExactAgreedTime.proved
#print axioms fnExactAgreedTime_card_holds
end Go.Proofs.YtmkaknegjahjaaaDoor
