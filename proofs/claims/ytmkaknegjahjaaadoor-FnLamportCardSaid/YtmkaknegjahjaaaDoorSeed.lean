/- The reference's drawn seed (spec.SeedOf), walked. -/
import Derived.Test.YtmkaknegjahjaaaDoorSrc
import Derived.Test.YtmkaknegjahjaaaDoorShaE
namespace Go.Proofs.YtmkaknegjahjaaaDoor.Src
open Go.RowKit Go.Proofs.YtmkaknegjahjaaaDoorV.PrintWords Go.Proofs.YtmkaknegjahjaaaDoorV.PrintMore Go.Lib
set_option linter.unusedVariables false
set_option maxHeartbeats 4000000
set_option maxRecDepth 100000
/-- The seed that is drawn of a code. -/
def seedF (l : List Int) : ByteArray := Sha.sha (strOfNums [(byteF l 0 ((l.length : Int) % 1000)).1 % 250])
theorem seed_calls (w : World) (A0 : Option Addr) (c0 : Nat) (l : List Int) (hr : Kd.C (Kd.int .u8) w A0 l.length l) (hu : ∀ i : Int, 0 ≤ rd l i ∧ rd l i ≤ 255) (hl : l.length ≤ 4611686018427387904) :
    Calls Tryd.prog 17 #[.slice A0 l.length c0] w fun e w' => e = .returned (.string (seedF l)) ∧ Below w.heap.size w w' := by
  have h0 : (0 : Int) ≤ (l.length : Int) := by omega
  have hbr := byteF_range l 0 ((l.length : Int) % 1000) hu
  have hB0 : (w.alloc (.cells #[.slice A0 l.length c0, .int .i64 0, .int .i64 ((l.length : Int) % 1000)] 119 (0, 0))).heap[w.heap.size]? = some (.cells #[.slice A0 l.length c0, .int .i64 0, .int .i64 ((l.length : Int) % 1000)] 119 (0, 0)) := heap_alloc_new w _
  have hn := next_calls w.heap.size w _ A0 c0 _ l 0 ((l.length : Int) % 1000) 250 (by omega) (by omega) hB0 hr ((Below.refl _ w).alloc (Nat.le_refl _) _) (Nat.le_refl _) hu (by omega) (by omega) (by omega) (by omega) hl
  unfold seedF
  generalize byteF l 0 ((l.length : Int) % 1000) = R at hbr hn ⊢
  have hb1 : 0 ≤ R.1 % 250 := by omega
  have hb2 : R.1 % 250 < 256 := by omega
  generalize R.1 % 250 = b at hb1 hb2 hn ⊢
  have HN := Aside0.mk hn
  have hsh : Sha.sha (strOfNums [b]) = Sha.shaB [b] := (Sha.sha_of [b] (by intro x hx; rw [List.mem_singleton] at hx; omega)).symm
  rw [hsh]
  have HHS := Aside0.mk hsh
  clear hn hB0 hr hsh
  generalize hX : Sha.shaB [b] = X
  have HX := Aside0.mk hX
  clear hX
  have hbm : b % 256 = b := by omega
  go_enter Tryd.func17, Tryd.ntmps17
  go_wp2_with (first
    | (go_at_call 57; refine (source_calls w A0 c0 l hl).mono ?_; rintro e w1 ⟨rfl, rfl⟩)
    | (go_at_call 58; refine HN.out.mono ?_; rintro e w2 ⟨rfl, hq1, hq2⟩; have HB := Aside0.mk (((Below.refl _ w).alloc (Nat.le_refl _) _).trans (hq2.1 w.heap.size (Nat.le_refl _))); clear hq1 hq2)
    | ((with_reducible refine gate_dst (N := 7) rfl ?_); refine Kd.R_lit (Kd.int .u8) _ 5 ?hg (N := 7) ?hd (xs := ([b] : List Int)) (inner := [.int .u8 b]) (ok := fun _ => True) (okp := fun _ => True) ?hr ?hp (fun _ hk => hk) trivial (Below.refl _ _) (Nat.le_refl _) (by simp) ?_; (case hd => rfl); (case hg => rfl); (case hr => first | (go_simp; done) | (go_simp; rfl)); (case hp => exact (Reps.one (show Kd.M (Kd.int .u8) _ _ _ b [.int .u8 b] from rfl) (Reps.none _ _))); intro v w3 ho hb hg_ hnew_; have n1_ := Aside0.mk (HB.out.trans (Below.mono hb (HB.out.size))); have HO := Aside0.mk ho; clear hg_ hnew_ ho hb HB; have HB := n1_; clear n1_; obtain ⟨Ao7, co7, eo7⟩ := Kd.R_slice HO.out; subst eo7)
    | (go_at_call 54; refine (Sha.hashS_calls Ao7 _ [b] _ (Kd.R_reads' HO.out).2.2 (by simp)).mono ?_; rintro e w4 ⟨rfl, hb4⟩; have n1_ := Aside0.mk (HB.out.trans (Below.mono hb4 (HB.out.size))); clear HB hb4; have HB := n1_; clear n1_))
  go_ret
  exact ⟨congrArg (fun x => Ending.returned (.string x)) HX.out, HB.out⟩
end Go.Proofs.YtmkaknegjahjaaaDoor.Src
