/- impl.median, walked: the middle of the list, sorted. -/
import Derived.Test.YtmkaknegjahjaaaDoorMed
import Derived.Test.YtmkaknegjahjaaaDoorAddsB
namespace Go.Proofs.YtmkaknegjahjaaaDoor.Med
open Go.RowKit Go.Shelf Go.Sort Go.Maps Go.Proofs.YtmkaknegjahjaaaDoorV.PrintWords Go.Proofs.YtmkaknegjahjaaaDoorV.PrintMore Go.Lib
set_option linter.unusedVariables false
/-- The list, sorted. -/
def srt (l : List Int) : List Int := l.mergeSort (fun x y => decide (x ≤ y))
theorem srt_length (l : List Int) : (srt l).length = l.length := List.length_mergeSort l
/-- The middle of the list, sorted. -/
def med (l : List Int) : Int := YtmkaknegjahjaaaDoorV.PrintWords.rd (srt l) (Int.tdiv (l.length : Int) 2)

theorem ints_of_C {w : World} {A : Option Addr} {l : List Int} {c : Nat} (h : Kd.C (Kd.int .i64) w A l.length l) (h0 : 0 < l.length) : Ints w.heap.size w (.slice A l.length c) l := by
  obtain ⟨ad, rfl, hc⟩ := h.2.2 h0
  have hcell : ∀ j, j < l.length → w.cell? (ad.add j) = some (.int .i64 (l[j]?.getD 0)) := fun j hj => by
    obtain ⟨c, hs, hr, hcc⟩ := hc j _ (List.getElem?_eq_getElem hj)
    rw [show c = [Value.int .i64 l[j]] from hr] at hcc
    have := hcc 0 _ rfl
    rw [List.getElem?_eq_getElem hj]
    simpa [Kd.int, Kd.scalar] using this
  have hsp : ad.spot = none := by
    have := hcell 0 h0
    rw [Addr.add] at this
    simp only [if_pos] at this
    unfold World.cell? at this
    split at this
    · by_cases hh : ad.spot.isSome
      · rw [if_pos hh] at this; cases this
      · simpa using hh
    · cases this
  have hlt : ad.block < w.heap.size := by
    have := hcell 0 h0
    unfold World.cell? at this
    split at this
    · rename_i heq
      have hh := (Array.getElem?_eq_some_iff.1 heq).1
      simpa [Addr.add] using hh
    · cases this
  obtain ⟨b, off, sp⟩ := ad
  obtain rfl : sp = none := hsp
  refine .inr ⟨b, off, c, rfl, hlt, fun j hj => ?_⟩
  rw [← hcell j hj]
  unfold Addr.add
  by_cases hj0 : j = 0
  · subst hj0; rfl
  · rw [if_neg hj0]

theorem cell_med {W : World} {gb e : Nat} {cur : Array Value} {q : Nat × Nat} (l : List Int) (h0 : 0 < l.length) (hgb : W.heap[gb]? = some (.cells cur e q)) (r4 : cur.toList.take (l.length * 1) = (l.mergeSort (fun x y => decide (x ≤ y))).map encZ) :
    W.cell? ⟨gb, l.length / 2, none⟩ = some (.int .i64 (med l)) := by
  have e0 : l.length / 2 = ((l.length : Int).tdiv 2).toNat := by rw [Int.tdiv_eq_ediv_of_nonneg (by omega)]; omega
  rw [e0]
  have e1 : (l.length : Int).tdiv 2 = (l.length : Int) / 2 := Int.tdiv_eq_ediv_of_nonneg (by omega)
  have hj : ((l.length : Int).tdiv 2).toNat < l.length := by rw [e1]; omega
  unfold med
  generalize ((l.length : Int).tdiv 2) = m at hj ⊢
  have hs : m.toNat < (srt l).length := by rw [srt_length]; exact hj
  have h1 : cur.toList[m.toNat]? = some (encZ ((srt l)[m.toNat])) := by
    have h2 : (cur.toList.take (l.length * 1))[m.toNat]? = cur.toList[m.toNat]? := by rw [List.getElem?_take, if_pos (by omega)]
    rw [← h2, r4, List.getElem?_map]
    show Option.map encZ (srt l)[m.toNat]? = _
    rw [List.getElem?_eq_getElem hs]
    rfl
  have h3 : YtmkaknegjahjaaaDoorV.PrintWords.rd (srt l) m = (srt l)[m.toNat] := by unfold YtmkaknegjahjaaaDoorV.PrintWords.rd; simp [List.getD_eq_getElem?_getD, hs]
  rw [h3]
  simp only [World.cell?, hgb]
  simpa [encZ] using h1

set_option maxHeartbeats 2000000 in
set_option maxRecDepth 100000 in
theorem median_calls (w : World) (A0 : Option Addr) (c0 : Nat) (l : List Int) (hr : Kd.C (Kd.int .i64) w A0 l.length l) (h0 : 0 < l.length) (hl : l.length ≤ 1099511627776) :
    Calls Tryd.prog 129 #[.slice A0 l.length c0] w fun e w' => e = .returned (.int .i64 (med l)) ∧ Below w.heap.size w w' := by
  have hI := ints_of_C (c := c0) hr h0
  have hne : l ≠ [] := fun e => by subst e; simp at h0
  have hB1 : Below w.heap.size w (w.alloc (.cells #[.slice A0 l.length c0] 67)) := (Below.refl _ w).alloc (Nat.le_refl _) _
  have cV := callsIn_wide (n := 3) |>.1 (values_in Fence.wide 3 trivial rfl A0 l.length c0 w)
  have cS := callsIn_wide (n := 6) |>.1 (sorted_in 6 (by omega) w.heap.size (.slice A0 l.length c0) l hne (Nat.le_trans hl (by decide)) (by omega) (w.alloc (.cells #[.slice A0 l.length c0] 67)) (by simp) (Boxed.new w _ _).cell ((hI.below hB1).mono (by simp)))
  have HV := Aside0.mk cV
  have HS := Aside0.mk cS
  clear cV cS hI hr
  go_enter Tryd.func129, Tryd.ntmps129
  go_wp2_with (first
    | (go_at_call 144; refine HV.out.mono ?_; rintro e w1 ⟨rfl, rfl⟩)
    | (go_at_call 143; refine HS.out.mono ?_; rintro e w2 ⟨v, rfl, hrow, hb⟩; rcases hrow.2 with ⟨rfl, hz0⟩ | ⟨gb, cap, cur, rfl, hbase, hgb, r1, r2, r3, r4⟩; (case inl => exact absurd hz0 (by omega)); have hcell := cell_med l h0 hgb r4; have HBB := Aside0.mk (Below.trans hB1 (Below.mono hb (by simp))); clear hrow hbase hgb r1 r2 r3 r4 hb))
  go_ret
  exact ⟨rfl, HBB.out⟩
end Go.Proofs.YtmkaknegjahjaaaDoor.Med
