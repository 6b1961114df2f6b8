/- The drawing of bytes of the reference (spec.l00Src), walked. -/
import Derived.Test.YtmkaknegjahjaaaDoorAdds
import Derived.Test.YtmkaknegjahjaaaDoorProg
import Derived.StillTailTactics
import Derived.BigQuiet
import Derived.StillTactics
import Derived.ChangeSlices
namespace Go.Proofs.YtmkaknegjahjaaaDoor.Src
open Go.RowKit Go.Proofs.YtmkaknegjahjaaaDoorV.PrintWords Go.Proofs.YtmkaknegjahjaaaDoorV.PrintMore Go.Lib
set_option linter.unusedVariables false
set_option maxHeartbeats 4000000
set_option maxRecDepth 100000
theorem wr64 (x : Int) (h0 : -9223372036854775808 ≤ x) (h1 : x < 9223372036854775808) : IntKind.i64.wrap x = x := by
  simp [IntKind.wrap, IntKind.bits, IntKind.signed]; omega
theorem halt_ {G : Prop} (h : Aside0 G) : G := h.out
/-- Nothing but the block g has turned. -/
def KK (g : Nat) (w w' : World) : Prop := (∀ base, base ≤ g → Below base w w') ∧ Kept w w' (fun k => k = g)
theorem KK.refl (g : Nat) (w : World) : KK g w w := ⟨fun base _ => Below.refl base w, Kept.refl _ _⟩
theorem KK.set {g : Nat} {w w1 : World} (h : KK g w w1) (i : Nat) (u : Value) : KK g w (w1.setCell ⟨g, i, none⟩ u) :=
  ⟨fun base hb => (h.1 base hb).setCell (by simpa using hb) _, by
    refine ⟨?_, fun k hk hne => (Below.heap_setCell w1 ⟨g, i, none⟩ u k hne).trans (h.2.2 k hk hne)⟩
    have := h.2.1
    simpa [World.setCell] using this⟩
theorem KK.drew {g : Nat} {w w1 : World} (h : KK g w w1) : KK g w ({ w1 with drawn := w1.drawn + 1 } : World) :=
  ⟨fun base hb => (h.1 base hb).drew, ⟨h.2.1, h.2.2⟩⟩
theorem KK.trans {g : Nat} {w w1 w2 : World} (h : KK g w w1) (h2 : KK g w1 w2) : KK g w w2 :=
  ⟨fun base hb => (h.1 base hb).trans (h2.1 base hb), ⟨Nat.le_trans h.2.1 h2.2.1, fun k hk hne => (h2.2.2 k (Nat.lt_of_lt_of_le hk h.2.1) hne).trans (h.2.2 k hk hne)⟩⟩
/-- What a byte is drawn to be, the place and the seed behind it. -/
def byteF (l : List Int) (at_ seed : Int) : Int × Int × Int :=
  if at_ + 1 ≤ (l.length : Int) then (rd l at_, at_ + 1, (seed * 31 + rd l at_ + 7) % 2147483648)
  else if at_ + 1 > 3000 then (0, at_ + 1, seed)
  else ((seed * 1103515245 + 12345) % 2147483648 / 65536 % 256, at_ + 1, (seed * 1103515245 + 12345) % 2147483648)
theorem byte_calls (g : Nat) (w0 w : World) (A0 : Option Addr) (c0 T : Nat) (l : List Int) (at_ seed : Int)
    (hB : w.heap[g]? = some (.cells #[.slice A0 l.length c0, .int .i64 at_, .int .i64 seed] T (0, 0)))
    (hr : Kd.C (Kd.int .u8) w0 A0 l.length l) (hw : Below w0.heap.size w0 w) (hg : w0.heap.size ≤ g) (hu : ∀ i : Int, 0 ≤ rd l i ∧ rd l i ≤ 255) (h0 : 0 ≤ at_) (h1 : at_ ≤ 1000000) (s0 : 0 ≤ seed) (s1 : seed < 2147483648) (hl : l.length ≤ 4611686018427387904) :
    Calls Tryd.prog 105 #[.pointer (some ⟨g, 0, none⟩)] w fun e w' => e = .returned (.int .i64 (byteF l at_ seed).1) ∧ w'.heap[g]? = some (.cells #[.slice A0 l.length c0, .int .i64 (byteF l at_ seed).2.1, .int .i64 (byteF l at_ seed).2.2] T (0, 0)) ∧ KK g w w' := by
  have hx0 : w.cell? ⟨g, 0, none⟩ = some (.slice A0 l.length c0) := (blk_cell hB 0).trans rfl
  have hx1 : w.cell? ⟨g, 1, none⟩ = some (.int .i64 at_) := (blk_cell hB 1).trans rfl
  have hx2 : w.cell? ⟨g, 2, none⟩ = some (.int .i64 seed) := (blk_cell hB 2).trans rfl
  have f1 := blk_frozen hB 1
  have f2 := blk_frozen hB 2
  obtain ⟨R, hRF⟩ : ∃ R, R = byteF l at_ seed := ⟨_, rfl⟩
  rw [← hRF]
  replace hRF := Aside0.mk hRF
  go_enter Tryd.func105, Tryd.ntmps105
  go_wp2
  refine wp_region_still_tail 9 (by kernel_rfl) (by kernel_rfl) ?_
  have hB1 : (w.setCell ⟨g, 1, none⟩ (.int .i64 (at_ + 1))).heap[g]? = some (.cells #[.slice A0 l.length c0, .int .i64 (at_ + 1), .int .i64 seed] T (0, 0)) := (blk_set hB 1 _).trans rfl
  have hC1 : KK g w (w.setCell ⟨g, 1, none⟩ (.int .i64 (at_ + 1))) := (KK.refl g w).set _ _
  generalize hwd : ({ (w.setCell ⟨g, 1, none⟩ (.int .i64 (at_ + 1))) with drawn := (w.setCell ⟨g, 1, none⟩ (.int .i64 (at_ + 1))).drawn + 1 } : World) = wd
  have hB2 : wd.heap[g]? = some (.cells #[.slice A0 l.length c0, .int .i64 (at_ + 1), .int .i64 seed] T (0, 0)) := hwd ▸ hB1
  have hC2 : KK g w wd := hwd ▸ hC1.drew
  clear hB1 hC1 hwd hx0 hx1 hx2 f1 f2
  have HB2 := Aside0.mk hB2
  have HC2 := Aside0.mk hC2
  have hy0 : wd.cell? ⟨g, 0, none⟩ = some (.slice A0 l.length c0) := (blk_cell hB2 0).trans rfl
  have hy1 : wd.cell? ⟨g, 1, none⟩ = some (.int .i64 (at_ + 1)) := (blk_cell hB2 1).trans rfl
  have hy2 : wd.cell? ⟨g, 2, none⟩ = some (.int .i64 seed) := (blk_cell hB2 2).trans rfl
  have f1 := blk_frozen hB2 1
  have f2 := blk_frozen hB2 2
  clear hB2 hC2
  simp only [List.take_succ_cons, List.take_zero, List.drop_succ_cons, List.drop_zero]
  repeat still_step
  refine wpStill_nil ?_
  by_cases hle : at_ + 1 ≤ (l.length : Int)
  · have hR : R = (rd l at_, at_ + 1, (seed * 31 + rd l at_ + 7) % 2147483648) := hRF.out.trans (if_pos hle)
    have hle' : decide (at_ + 1 ≤ (l.length : Int)) = true := decide_eq_true hle
    go_wp2
    obtain ⟨ad, ea, hxa⟩ := Kd.at_int hr at_ h0 (by omega)
    cases ea
    have hva := hu at_
    have hxw := (hw.cell (World.block_lt_of_cell? w0 _ hxa)).trans hxa
    have hxd := ((HC2.out.1 _ hg).cell (World.block_lt_of_cell? w0 _ hxa)).trans hxw
    refine wp_region_still_tail 23 (by kernel_rfl) (by kernel_rfl) ?_
    generalize hwe : ({ wd with drawn := wd.drawn + 1 } : World) = we
    have hB3 : we.heap[g]? = some (.cells #[.slice (some ad) l.length c0, .int .i64 (at_ + 1), .int .i64 seed] T (0, 0)) := hwe ▸ HB2.out
    have hC3 : KK g w we := hwe ▸ HC2.out.drew
    have hxe : we.cell? (ad.add at_.toNat) = some (.int .u8 (rd l at_)) := by rw [← hwe]; exact hxd
    have HXA := Aside0.mk hxa
    have HXW := Aside0.mk hxw
    clear hxd hxw hxa hy0 hy1 hy2 f1 f2 hwe HB2 HC2 hr hw
    have HB3 := Aside0.mk hB3
    have HC3 := Aside0.mk hC3
    have hz0 : we.cell? ⟨g, 0, none⟩ = some (.slice (some ad) l.length c0) := (blk_cell hB3 0).trans rfl
    have hz1 : we.cell? ⟨g, 1, none⟩ = some (.int .i64 (at_ + 1)) := (blk_cell hB3 1).trans rfl
    have hz2 : we.cell? ⟨g, 2, none⟩ = some (.int .i64 seed) := (blk_cell hB3 2).trans rfl
    have f1 := blk_frozen hB3 1
    have f2 := blk_frozen hB3 2
    clear hB3 hC3
    have p1 : (0 ≤ at_) = True := eq_true h0
    have p2 : (at_ < (l.length : Int)) = True := eq_true (by omega)
    have q1 := wr64 at_ (by omega) (by omega)
    have q2 := wr64 (seed * 31) (by omega) (by omega)
    have q3 := wr64 (seed * 31 + rd l at_) (by omega) (by omega)
    have q4 := wr64 (seed * 31 + rd l at_ + 7) (by omega) (by omega)
    have q5 := wr64 (rd l at_) (by omega) (by omega)
    simp only [List.take_succ_cons, List.take_zero, List.drop_succ_cons, List.drop_zero]
    repeat still_step
    refine wpStill_nil ?_
    go_wp2
    have hB4 : (we.setCell ⟨g, 2, none⟩ (.int .i64 ((seed * 31 + rd l at_ + 7) % 2147483648))).heap[g]? = some (.cells #[.slice (some ad) l.length c0, .int .i64 (at_ + 1), .int .i64 ((seed * 31 + rd l at_ + 7) % 2147483648)] T (0, 0)) := (blk_set HB3.out 2 _).trans rfl
    have hC4 : KK g w (we.setCell ⟨g, 2, none⟩ (.int .i64 ((seed * 31 + rd l at_ + 7) % 2147483648))) := HC3.out.set _ _
    have hxg : (we.setCell ⟨g, 2, none⟩ (.int .i64 ((seed * 31 + rd l at_ + 7) % 2147483648))).cell? (ad.add at_.toNat) = some (.int .u8 (rd l at_)) := by
      have h_ := ((hC4.1 _ hg).cell (World.block_lt_of_cell? w0 _ HXA.out)).trans HXW.out
      exact h_
    refine wp_region_still_tail 12 (by kernel_rfl) (by kernel_rfl) ?_
    generalize hwf : ({ (we.setCell ⟨g, 2, none⟩ (.int .i64 ((seed * 31 + rd l at_ + 7) % 2147483648))) with drawn := (we.setCell ⟨g, 2, none⟩ (.int .i64 ((seed * 31 + rd l at_ + 7) % 2147483648))).drawn + 1 } : World) = wf
    have hB5 : wf.heap[g]? = some (.cells #[.slice (some ad) l.length c0, .int .i64 (at_ + 1), .int .i64 ((seed * 31 + rd l at_ + 7) % 2147483648)] T (0, 0)) := hwf ▸ hB4
    have hC5 : KK g w wf := hwf ▸ hC4.drew
    have hxf : wf.cell? (ad.add at_.toNat) = some (.int .u8 (rd l at_)) := by rw [← hwf]; exact hxg
    clear hB4 hC4 hxg hwf hxe hz0 hz1 hz2 f1 f2
    have HB5 := Aside0.mk hB5
    have HC5 := Aside0.mk hC5
    have hv0 : wf.cell? ⟨g, 0, none⟩ = some (.slice (some ad) l.length c0) := (blk_cell hB5 0).trans rfl
    have hv1 : wf.cell? ⟨g, 1, none⟩ = some (.int .i64 (at_ + 1)) := (blk_cell hB5 1).trans rfl
    clear hB5 hC5
    simp only [List.take_succ_cons, List.take_zero, List.drop_succ_cons, List.drop_zero]
    repeat still_step
    refine wpStill_nil ?_
    go_wp2
    subst hR
    go_ret
    exact ⟨rfl, HB5.out, HC5.out⟩
  · have hR0 : R = (if at_ + 1 > 3000 then (0, at_ + 1, seed) else ((seed * 1103515245 + 12345) % 2147483648 / 65536 % 256, at_ + 1, (seed * 1103515245 + 12345) % 2147483648)) := hRF.out.trans (if_neg hle)
    have hle' : decide (at_ + 1 ≤ (l.length : Int)) = false := decide_eq_false hle
    by_cases h3 : at_ + 1 > 3000
    · have h3' : decide (at_ + 1 > 3000) = true := decide_eq_true h3
      have hR := hR0.trans (if_pos h3)
      clear hR0
      subst hR
      go_wp2
      go_ret
      exact ⟨rfl, HB2.out, HC2.out⟩
    · have h3' : decide (at_ + 1 > 3000) = false := decide_eq_false h3
      have hR := hR0.trans (if_neg h3)
      clear hR0
      subst hR
      go_wp2
      go_ret
      refine ⟨rfl, (blk_set HB2.out 2 _).trans rfl, HC2.out.set _ _⟩
theorem byteF_range (l : List Int) (at_ seed : Int) (hu : ∀ i : Int, 0 ≤ rd l i ∧ rd l i ≤ 255) : 0 ≤ (byteF l at_ seed).1 ∧ (byteF l at_ seed).1 ≤ 255 := by
  unfold byteF
  have := hu at_
  split
  · exact this
  split
  · exact ⟨Int.le_refl 0, show (0 : Int) ≤ 255 by decide⟩
  · dsimp only; omega
theorem next_calls (g : Nat) (w0 w : World) (A0 : Option Addr) (c0 T : Nat) (l : List Int) (at_ seed n : Int) (hn : 1 < n) (hn2 : n ≤ 256)
    (hB : w.heap[g]? = some (.cells #[.slice A0 l.length c0, .int .i64 at_, .int .i64 seed] T (0, 0)))
    (hr : Kd.C (Kd.int .u8) w0 A0 l.length l) (hw : Below w0.heap.size w0 w) (hg : w0.heap.size ≤ g) (hu : ∀ i : Int, 0 ≤ rd l i ∧ rd l i ≤ 255) (h0 : 0 ≤ at_) (h1 : at_ ≤ 1000000) (s0 : 0 ≤ seed) (s1 : seed < 2147483648) (hl : l.length ≤ 4611686018427387904) :
    Calls Tryd.prog 58 #[.pointer (some ⟨g, 0, none⟩), .int .i64 n] w fun e w' => e = .returned (.int .i64 ((byteF l at_ seed).1 % n)) ∧ w'.heap[g]? = some (.cells #[.slice A0 l.length c0, .int .i64 (byteF l at_ seed).2.1, .int .i64 (byteF l at_ seed).2.2] T (0, 0)) ∧ KK g w w' := by
  have hbr := byteF_range l at_ seed hu
  have hbc := byte_calls g w0 w A0 c0 T l at_ seed hB hr hw hg hu h0 h1 s0 s1 hl
  generalize byteF l at_ seed = R at hbr hbc ⊢
  have HBC := Aside0.mk hbc
  clear hbc hB hr hw hg
  have d1 : decide (n ≤ 1) = false := decide_eq_false (by omega)
  have d2 : decide (n ≤ 256) = true := decide_eq_true hn2
  go_enter Tryd.func58, Tryd.ntmps58
  have hb0 := hbr.1
  have hnn : ¬ n = 0 := by omega
  go_wp2_with (first | (go_at_call 105; refine HBC.out.mono ?_; rintro e w1 ⟨rfl, hb1, hb2⟩; have HE := Aside0.mk hb1; have HF := Aside0.mk hb2; clear hb1 hb2))
  go_ret
  exact ⟨rfl, HE.out, HF.out⟩
theorem source_calls (w : World) (A0 : Option Addr) (c0 : Nat) (l : List Int) (hl : l.length ≤ 4611686018427387904) :
    Calls Tryd.prog 57 #[.slice A0 l.length c0] w fun e w' => e = .returned (.pointer (some ⟨w.heap.size, 0, none⟩)) ∧ w' = w.alloc (.cells #[.slice A0 l.length c0, .int .i64 0, .int .i64 ((l.length : Int) % 1000)] 119 (0, 0)) := by
  have h0 : (0 : Int) ≤ (l.length : Int) := by omega
  go_enter Tryd.func57, Tryd.ntmps57
  go_wp2
  go_ret
  exact ⟨rfl, rfl⟩
end Go.Proofs.YtmkaknegjahjaaaDoor.Src
