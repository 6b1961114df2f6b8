-- laid by this session's program myprint.py over the kit's printer
-- aliased
import Derived.Test.YtgekkfgljjbikaaPFnExactBatchBytesx0
import Derived.Test.YtgekkfgljjbikaaPFnExactBatchBytesx8
import Derived.Test.YtgekkfgljjbikaaPFnExactBatchBytesx9
namespace Go.Proofs.Ytgekkfgljjbikaa.PFnExactBatchBytes
open Go.RowKit Go.Proofs.YtgekkfgljjbikaaV.PrintWords Go.Proofs.YtgekkfgljjbikaaV.PrintLast Go.Proofs.YtgekkfgljjbikaaV.PrintMore
attribute [local go_sem] max2_int min2_int max_two min_two max_three min_three max_four min_four u8_wm u32_wm   -- for this text's walks alone
set_option linter.unusedVariables false
set_option linter.unusedSimpArgs false

/-! ### impl_batchText: function 87 -/
theorem qa10 : type_of% @blk_drewN := @blk_drewN
theorem qb10 : type_of% @blk_drew := @blk_drew
theorem qc10 : type_of% @blk_alloc := @blk_alloc
theorem qd10 : type_of% @below_alloc := @below_alloc
theorem qe10 : type_of% @pw_below_drewN := @pw_below_drewN
theorem qf10 : type_of% @below_drew1 := @below_drew1
theorem qg10 : type_of% @below_set := @below_set
theorem qh10 : type_of% @Aside0.mk := @Aside0.mk
theorem qi10 : type_of% @below_step := @below_step
theorem qj10 : type_of% @below_size := @below_size
def impl_batchText.l0 : Nat → ByteArray → List (S137) → Int → Int → Bool → Int → Int → Int → Int → ByteArray → List (S137) → Option (ByteArray)
  | 0, _, _, _, _, _, _, _, _, _, _, _ => none
  | k + 1, x3, x14, x15, x16, x254000, x254001, x254002, x254003, x254004, x254005, x254006 => if x16 < x15 then (if 0 ≤ x16 then (if x16 < (x14.length : Int) then ((impl_number.f k ((rd_T137 x14 x16).f0) 1).bind fun t257 => ((impl_number.f k ((rd_T137 x14 x16).f1) 4).bind fun t258 => (if t257.size + t258.size ≤ 9223372036854775807 then (if (t257 ++ t258).size + ((rd_T137 x14 x16).f2).size ≤ 9223372036854775807 then (if x3.size + ((t257 ++ t258) ++ ((rd_T137 x14 x16).f2)).size ≤ 9223372036854775807 then (impl_batchText.l0 k (x3 ++ ((t257 ++ t258) ++ ((rd_T137 x14 x16).f2))) x14 x15 (wrap64 (x16 + 1)) x254000 x254001 x254002 x254003 x254004 x254005 x254006) else (none)) else (none)) else (none)))) else (none)) else (none)) else ((impl_requestText.f k x254001 x254002 x254003 x254004 x254005).bind fun t259 => (if x3.size + t259.size ≤ 9223372036854775807 then (some (x3 ++ t259)) else (none)))
def impl_batchText.f (k : Nat) (a0_0 : Bool) (a0_1 : Int) (a0_2 : Int) (a0_3 : Int) (a0_4 : Int) (a0_5 : ByteArray) (l0_6 : List (S137)) : Option (ByteArray) := if a0_0 = true then (some (⟨#[0]⟩ : ByteArray)) else ((impl_number.f k (wrap64 ((l0_6.length : Int) + 1)) 1).bind fun t254 => (impl_batchText.l0 k t254 l0_6 (l0_6.length : Int) 0 a0_0 a0_1 a0_2 a0_3 a0_4 a0_5 l0_6))
theorem impl_batchText.mono_l : ∀ k, (∀ y0 y1 y2 y3 y4 y5 y6 y7 y8 y9 y10, LeO (impl_batchText.l0 k y0 y1 y2 y3 y4 y5 y6 y7 y8 y9 y10) (impl_batchText.l0 (k + 1) y0 y1 y2 y3 y4 y5 y6 y7 y8 y9 y10))
  | 0 => fun _ _ _ _ _ _ _ _ _ _ _ r h => by simp [impl_batchText.l0] at h
  | k + 1 => by
    have ih0 := impl_batchText.mono_l k
    · intro y0 y1 y2 y3 y4 y5 y6 y7 y8 y9 y10
      unfold impl_batchText.l0
      repeat' first
      | (with_reducible exact ih0 _ _ _ _ _ _ _ _ _ _ _)
      | (with_reducible exact impl_number.mono _ _ _)
      | (with_reducible exact impl_requestText.mono _ _ _ _ _ _)
      | (with_reducible exact LeO.refl _)
      | (with_reducible exact LeO.none _)
      | (with_reducible refine LeO.ite ?_ ?_)
      | (with_reducible refine LeO.bind ?_ (fun _ => ?_))
      | exact ih0 _ _ _ _ _ _ _ _ _ _ _
      | exact impl_number.mono _ _ _
      | exact impl_requestText.mono _ _ _ _ _ _
      | exact LeO.none _
      | refine LeO.ite ?_ ?_
      | refine LeO.bind ?_ (fun _ => ?_)
theorem impl_batchText.mono : ∀ a0 a1 a2 a3 a4 a5 a6 k, LeO (impl_batchText.f k a0 a1 a2 a3 a4 a5 a6) (impl_batchText.f (k + 1) a0 a1 a2 a3 a4 a5 a6) := by
  intro a0 a1 a2 a3 a4 a5 a6 k
  have ih0 := impl_batchText.mono_l k
  unfold impl_batchText.f
  repeat' first
      | (with_reducible exact ih0 _ _ _ _ _ _ _ _ _ _ _)
      | (with_reducible exact impl_number.mono _ _ _)
      | (with_reducible exact impl_requestText.mono _ _ _ _ _ _)
      | (with_reducible exact LeO.refl _)
      | (with_reducible exact LeO.none _)
      | (with_reducible refine LeO.ite ?_ ?_)
      | (with_reducible refine LeO.bind ?_ (fun _ => ?_))
      | exact ih0 _ _ _ _ _ _ _ _ _ _ _
      | exact impl_number.mono _ _ _
      | exact impl_requestText.mono _ _ _ _ _ _
      | exact LeO.none _
      | refine LeO.ite ?_ ?_
      | refine LeO.bind ?_ (fun _ => ?_)
def impl_batchText.T7 : Bool × List (List Nat × List Nat) := (true, [([], []), ([], []), ([1], [1]), ([2], [2]), ([], []), ([4], [4]), ([5, 3], [5]), ([3, 6], [3, 6]), ([], []), ([8], [8]), ([7, 9], [7, 9]), ([0, 10], [0, 10]), ([11, 6, 0, 1, 2, 3, 4, 5, 6, 7, 8, 9, 10, 11], [0, 11])])
def impl_batchText.B7 : List Nat := [0, 0, 2, 6, 0, 16, 62, 126, 0, 256, 1022, 2047, 4095]
theorem impl_batchText.tab7 : rtab .any (opsOf Try.f87 7) = impl_batchText.T7 := by kernel_rfl
theorem impl_batchText.bits7 : waitsOk impl_batchText.T7.2 impl_batchText.B7 = true := by kernel_rfl
set_option maxHeartbeats 8000000 in
set_option maxRecDepth 100000 in
theorem impl_batchText.calls (k : Nat) (a0_0 : Bool) (a0_1 : Int) (a0_2 : Int) (a0_3 : Int) (a0_4 : Int) (a0_5 : ByteArray) (A0_6 : Option Addr) (c0_6 : Nat) (l0_6 : List (S137)) (r : ByteArray) (w : World) (hr0_6 : Kd.C k137 w A0_6 l0_6.length l0_6) (hc0_6 : l0_6.length ≤ c0_6) (h : impl_batchText.f k a0_0 a0_1 a0_2 a0_3 a0_4 a0_5 l0_6 = some r) :
    Calls Try.prog 87 #[.agg #[.bool a0_0, .int .i64 a0_1, .int .i64 a0_2, .int .i64 a0_3, .int .i64 a0_4, .string a0_5, .slice A0_6 l0_6.length c0_6]] w fun e w' => e = .returned (.string r) ∧ Below w.heap.size w w' := by
  have hu60 := Try.underlying60
  have hu137 := Try.underlying137
  have hu44 := Try.underlying44
  have HR0_6 := qh10 hr0_6
  have HC0_6 := qh10 hc0_6
  clear hr0_6 hc0_6
  have HB := qh10 (Below.refl w.heap.size w)
  have H : (if a0_0 = true then (some (⟨#[0]⟩ : ByteArray)) else ((impl_number.f k (wrap64 ((l0_6.length : Int) + 1)) 1).bind fun t254 => (impl_batchText.l0 k t254 l0_6 (l0_6.length : Int) 0 a0_0 a0_1 a0_2 a0_3 a0_4 a0_5 l0_6))) = some r := h
  clear h
  by_cases c2 : a0_0 = true
  · subst c2
    have H1 : (some (⟨#[0]⟩ : ByteArray)) = some r := by rw [if_pos rfl] at H; exact H
    clear H
    have H := H1
    clear H1
    obtain rfl := Option.some.inj H
    go_enter Try.func87, Try.ntmps87
    go_wp2_with (first | ((with_reducible refine gate_dst (N := 1) rfl ?_); refine box_event ?hg (N := 1) ?hd (cs := #[.bool true, .int .i64 a0_1, .int .i64 a0_2, .int .i64 a0_3, .int .i64 a0_4, .string a0_5, .slice A0_6 l0_6.length c0_6]) (t := 60) ?hr ?_; (case hd => rfl); (case hg => rfl); (case hr => first | (go_simp; done) | (go_simp; rfl)); intro gb253 hg w3 hbox hb; have n0_ := qh10 (qi10 (by repeat (first | (with_reducible first | exact HB.out | apply qd10 | apply qe10 | apply qf10) | exact HB.out)) hb); have n1_ := qh10 (hbox); have n2_ := qh10 ((by rw [hg]; exact (qj10 (by repeat (first | (with_reducible first | exact HB.out | apply qd10 | apply qe10 | apply qf10) | exact HB.out))) : w.heap.size ≤ gb253)); have n3_ := qh10 ((by rw [hg]; exact (qj10 (by repeat (first | (with_reducible first | exact HB.out | apply qd10 | apply qe10 | apply qf10) | exact HB.out))) : w.heap.size ≤ gb253)); clear HB; have HB := n0_; have BK253 := n1_; have GW253 := n2_; have GE253 := n3_; clear n0_ n1_ n2_ n3_; clear hb hbox hg; have hcz4_0 : w3.cell? ⟨gb253, 0, none⟩ = some (.bool true) := (blk_cell BK253.out 0).trans rfl; have hcz4_1 : w3.cell? ⟨gb253, 1, none⟩ = some (.int .i64 a0_1) := (blk_cell BK253.out 1).trans rfl; have hcz4_2 : w3.cell? ⟨gb253, 2, none⟩ = some (.int .i64 a0_2) := (blk_cell BK253.out 2).trans rfl; have hcz4_3 : w3.cell? ⟨gb253, 3, none⟩ = some (.int .i64 a0_3) := (blk_cell BK253.out 3).trans rfl; have hcz4_4 : w3.cell? ⟨gb253, 4, none⟩ = some (.int .i64 a0_4) := (blk_cell BK253.out 4).trans rfl; have hcz4_5 : w3.cell? ⟨gb253, 5, none⟩ = some (.string a0_5) := (blk_cell BK253.out 5).trans rfl; have hcz4_6 : w3.cell? ⟨gb253, 6, none⟩ = some (.slice A0_6 l0_6.length c0_6) := (blk_cell BK253.out 6).trans rfl; have hfz4_0 := blk_frozen BK253.out 0; have hfz4_1 := blk_frozen BK253.out 1; have hfz4_2 := blk_frozen BK253.out 2; have hfz4_3 := blk_frozen BK253.out 3; have hfz4_4 := blk_frozen BK253.out 4; have hfz4_5 := blk_frozen BK253.out 5; have hfz4_6 := blk_frozen BK253.out 6))
    go_ret
    exact ⟨by first | rfl | (simp [errW_none, errW_some] <;> rfl) | (simp [*, errW_none, errW_some] <;> rfl), by repeat (first | (with_reducible first | exact HB.out | apply qd10 | apply qe10 | apply qf10 | refine qg10 ?_ GE253.out) | exact HB.out)⟩
  · replace c2 := Bool.eq_false_iff.mpr c2
    subst c2
    have H1 : ((impl_number.f k (wrap64 ((l0_6.length : Int) + 1)) 1).bind fun t254 => (impl_batchText.l0 k t254 l0_6 (l0_6.length : Int) 0 false a0_1 a0_2 a0_3 a0_4 a0_5 l0_6)) = some r := by rw [if_neg (show ¬ (false = true) by decide)] at H; exact H
    clear H
    have H := H1
    clear H1
    replace H := Option.bind_eq_some_iff.mp H
    obtain ⟨t254, A50, H⟩ := H
    replace H : (impl_batchText.l0 k t254 l0_6 (l0_6.length : Int) 0 false a0_1 a0_2 a0_3 a0_4 a0_5 l0_6) = some r := H
    have A5 := qh10 A50
    clear A50
    have H' := qh10 H
    clear H
    go_enter Try.func87, Try.ntmps87
    go_wp2_with (first | ((with_reducible refine gate_dst (N := 1) rfl ?_); refine box_event ?hg (N := 1) ?hd (cs := #[.bool false, .int .i64 a0_1, .int .i64 a0_2, .int .i64 a0_3, .int .i64 a0_4, .string a0_5, .slice A0_6 l0_6.length c0_6]) (t := 60) ?hr ?_; (case hd => rfl); (case hg => rfl); (case hr => first | (go_simp; done) | (go_simp; rfl)); intro gb253 hg w6 hbox hb; have n0_ := qh10 (qi10 (by repeat (first | (with_reducible first | exact HB.out | apply qd10 | apply qe10 | apply qf10) | exact HB.out)) hb); have n1_ := qh10 (hbox); have n2_ := qh10 ((by rw [hg]; exact (qj10 (by repeat (first | (with_reducible first | exact HB.out | apply qd10 | apply qe10 | apply qf10) | exact HB.out))) : w.heap.size ≤ gb253)); have n3_ := qh10 ((by rw [hg]; exact (qj10 (by repeat (first | (with_reducible first | exact HB.out | apply qd10 | apply qe10 | apply qf10) | exact HB.out))) : w.heap.size ≤ gb253)); clear HB; have HB := n0_; have BK253 := n1_; have GW253 := n2_; have GE253 := n3_; clear n0_ n1_ n2_ n3_; clear hb hbox hg; have hcz7_0 : w6.cell? ⟨gb253, 0, none⟩ = some (.bool false) := (blk_cell BK253.out 0).trans rfl; have hcz7_1 : w6.cell? ⟨gb253, 1, none⟩ = some (.int .i64 a0_1) := (blk_cell BK253.out 1).trans rfl; have hcz7_2 : w6.cell? ⟨gb253, 2, none⟩ = some (.int .i64 a0_2) := (blk_cell BK253.out 2).trans rfl; have hcz7_3 : w6.cell? ⟨gb253, 3, none⟩ = some (.int .i64 a0_3) := (blk_cell BK253.out 3).trans rfl; have hcz7_4 : w6.cell? ⟨gb253, 4, none⟩ = some (.int .i64 a0_4) := (blk_cell BK253.out 4).trans rfl; have hcz7_5 : w6.cell? ⟨gb253, 5, none⟩ = some (.string a0_5) := (blk_cell BK253.out 5).trans rfl; have hcz7_6 : w6.cell? ⟨gb253, 6, none⟩ = some (.slice A0_6 l0_6.length c0_6) := (blk_cell BK253.out 6).trans rfl; have hfz7_0 := blk_frozen BK253.out 0; have hfz7_1 := blk_frozen BK253.out 1; have hfz7_2 := blk_frozen BK253.out 2; have hfz7_3 := blk_frozen BK253.out 3; have hfz7_4 := blk_frozen BK253.out 4; have hfz7_5 := blk_frozen BK253.out 5; have hfz7_6 := blk_frozen BK253.out 6) | ((with_reducible refine gate_callee (f := 113) rfl ?_); refine goesL_ (some 12) rfl rfl Try.func113 (by kernel_rfl) rfl #[.int .i64 (wrap64 ((l0_6.length : Int) + 1)), .int .i64 1] rfl (by (try simp only [List.map_toArray, List.map_cons, List.map_nil]); first | done | rfl | (simp only [List.length_drop, List.length_take]; rfl)) ?_; (with_reducible refine (impl_number.calls k (wrap64 ((l0_6.length : Int) + 1)) 1 t254 _ A5.out).mono ?_); rintro e w8 ⟨rfl, hb⟩; refine ⟨_, rfl, ?_⟩; have n0_ := qh10 (blk_below (g := gb253) (o := .cells #[.bool false, .int .i64 a0_1, .int .i64 a0_2, .int .i64 a0_3, .int .i64 a0_4, .string a0_5, .slice A0_6 l0_6.length c0_6] 60 (0, 0)) (by (with_reducible repeat (first | apply qa10 | apply qb10 | apply qc10)); exact BK253.out) hb); have n1_ := qh10 (qi10 (by repeat (first | (with_reducible first | exact HB.out | apply qd10 | apply qe10 | apply qf10 | refine qg10 ?_ GE253.out) | exact HB.out)) hb); clear BK253; clear HB; have BK253 := n0_; have HB := n1_; clear n0_ n1_; (try clear hb); (try clear hb2); (try clear hk); (try clear hi); have hcz9_0 : w8.cell? ⟨gb253, 0, none⟩ = some (.bool false) := (blk_cell BK253.out 0).trans rfl; have hcz9_1 : w8.cell? ⟨gb253, 1, none⟩ = some (.int .i64 a0_1) := (blk_cell BK253.out 1).trans rfl; have hcz9_2 : w8.cell? ⟨gb253, 2, none⟩ = some (.int .i64 a0_2) := (blk_cell BK253.out 2).trans rfl; have hcz9_3 : w8.cell? ⟨gb253, 3, none⟩ = some (.int .i64 a0_3) := (blk_cell BK253.out 3).trans rfl; have hcz9_4 : w8.cell? ⟨gb253, 4, none⟩ = some (.int .i64 a0_4) := (blk_cell BK253.out 4).trans rfl; have hcz9_5 : w8.cell? ⟨gb253, 5, none⟩ = some (.string a0_5) := (blk_cell BK253.out 5).trans rfl; have hcz9_6 : w8.cell? ⟨gb253, 6, none⟩ = some (.slice A0_6 l0_6.length c0_6) := (blk_cell BK253.out 6).trans rfl; have hfz9_0 := blk_frozen BK253.out 0; have hfz9_1 := blk_frozen BK253.out 1; have hfz9_2 := blk_frozen BK253.out 2; have hfz9_3 := blk_frozen BK253.out 3; have hfz9_4 := blk_frozen BK253.out 4; have hfz9_5 := blk_frozen BK253.out 5; have hfz9_6 := blk_frozen BK253.out 6))
    go_loopg [3, 16] k (fun kq v3 v16 w' => ∃ (x3_1 : ByteArray) (x16_1 : Int), v3 = .string x3_1 ∧ v16 = .int .i64 x16_1 ∧ Aside0 (impl_batchText.l0 kq x3_1 l0_6 (l0_6.length : Int) x16_1 false a0_1 a0_2 a0_3 a0_4 a0_5 l0_6 = some r) ∧ Aside0 (kq ≤ k) ∧ Aside0 (w'.heap[gb253]? = some (.cells #[.bool false, .int .i64 a0_1, .int .i64 a0_2, .int .i64 a0_3, .int .i64 a0_4, .string a0_5, (.slice A0_6 l0_6.length c0_6)] 60 (0, 0))) ∧ Aside0 (Below w.heap.size w w'))
    case atStart => exact ⟨(t254), (0), (by first | rfl | (simp; done) | (simp [*]; done)), (by first | rfl | (simp; done) | (simp [*]; done)), H', ⟨Nat.le_refl _⟩, ⟨by (with_reducible repeat (first | apply qa10 | apply qb10 | apply qc10)); exact BK253.out⟩, ⟨by repeat (first | (with_reducible first | exact HB.out | apply qd10 | apply qe10 | apply qf10 | refine qg10 ?_ GE253.out) | exact HB.out)⟩⟩
    case round =>
      clear H'
      try clear c1
      try clear c2
      try clear p2
      try clear p6
      try clear c8
      try clear hcz4_0
      try clear hcz4_1
      try clear hcz4_2
      try clear hcz4_3
      try clear hcz4_4
      try clear hcz4_5
      try clear hcz4_6
      try clear hcz7_0
      try clear hcz7_1
      try clear hcz7_2
      try clear hcz7_3
      try clear hcz7_4
      try clear hcz7_5
      try clear hcz7_6
      try clear hcz9_0
      try clear hcz9_1
      try clear hcz9_2
      try clear hcz9_3
      try clear hcz9_4
      try clear hcz9_5
      try clear hcz9_6
      try clear hfz4_0
      try clear hfz4_1
      try clear hfz4_2
      try clear hfz4_3
      try clear hfz4_4
      try clear hfz4_5
      try clear hfz4_6
      try clear hfz7_0
      try clear hfz7_1
      try clear hfz7_2
      try clear hfz7_3
      try clear hfz7_4
      try clear hfz7_5
      try clear hfz7_6
      try clear hfz9_0
      try clear hfz9_1
      try clear hfz9_2
      try clear hfz9_3
      try clear hfz9_4
      try clear hfz9_5
      try clear hfz9_6
      obtain ⟨x3_1, x16_1, rfl, rfl, HA, HK1, BK253, HB⟩ := hrel
      cases gk with
      | zero => exact absurd HA.out (by simp [impl_batchText.l0])
      | succ k1 =>
        have H := HA.out
        clear HA
        simp only [impl_batchText.l0] at H
        by_cases c10 : x16_1 < (l0_6.length : Int)
        · rw [if_pos c10] at H
          have c10b0 : decide (x16_1 < (l0_6.length : Int)) = true := decide_eq_true c10
          clear c10
          by_cases c11 : 0 ≤ x16_1
          · rw [if_pos c11] at H
            have c11b0 : decide (0 ≤ x16_1) = true := decide_eq_true c11
            clear c11
            by_cases c12 : x16_1 < (l0_6.length : Int)
            · rw [if_pos c12] at H
              have c12b0 : decide (x16_1 < (l0_6.length : Int)) = true := decide_eq_true c12
              clear c12
              replace H := Option.bind_eq_some_iff.mp H
              obtain ⟨t257, A130, H⟩ := H
              replace H : ((impl_number.f k1 ((rd_T137 l0_6 x16_1).f1) 4).bind fun t258 => (if t257.size + t258.size ≤ 9223372036854775807 then (if (t257 ++ t258).size + ((rd_T137 l0_6 x16_1).f2).size ≤ 9223372036854775807 then (if x3_1.size + ((t257 ++ t258) ++ ((rd_T137 l0_6 x16_1).f2)).size ≤ 9223372036854775807 then (impl_batchText.l0 k1 (x3_1 ++ ((t257 ++ t258) ++ ((rd_T137 l0_6 x16_1).f2))) l0_6 (l0_6.length : Int) (wrap64 (x16_1 + 1)) false a0_1 a0_2 a0_3 a0_4 a0_5 l0_6) else (none)) else (none)) else (none))) = some r := H
              have A13 := qh10 A130
              clear A130
              replace H := Option.bind_eq_some_iff.mp H
              obtain ⟨t258, A140, H⟩ := H
              replace H : (if t257.size + t258.size ≤ 9223372036854775807 then (if (t257 ++ t258).size + ((rd_T137 l0_6 x16_1).f2).size ≤ 9223372036854775807 then (if x3_1.size + ((t257 ++ t258) ++ ((rd_T137 l0_6 x16_1).f2)).size ≤ 9223372036854775807 then (impl_batchText.l0 k1 (x3_1 ++ ((t257 ++ t258) ++ ((rd_T137 l0_6 x16_1).f2))) l0_6 (l0_6.length : Int) (wrap64 (x16_1 + 1)) false a0_1 a0_2 a0_3 a0_4 a0_5 l0_6) else (none)) else (none)) else (none)) = some r := H
              have A14 := qh10 A140
              clear A140
              by_cases c15 : t257.size + t258.size ≤ 9223372036854775807
              · rw [if_pos c15] at H
                have c15b0 := eq_true c15
                have c15b1 : decide (t257.size + t258.size ≤ 9223372036854775807) = true := decide_eq_true c15
                try have c15b2 : (9223372036854775807 < t257.size + t258.size) = False := eq_false (Nat.not_lt.2 c15)
                by_cases c16 : (t257 ++ t258).size + ((rd_T137 l0_6 x16_1).f2).size ≤ 9223372036854775807
                · rw [if_pos c16] at H
                  have c16b0 := eq_true c16
                  have c16b1 : decide ((t257 ++ t258).size + ((rd_T137 l0_6 x16_1).f2).size ≤ 9223372036854775807) = true := decide_eq_true c16
                  try have c16b2 : (9223372036854775807 < (t257 ++ t258).size + ((rd_T137 l0_6 x16_1).f2).size) = False := eq_false (Nat.not_lt.2 c16)
                  (try (have c16b3 := c16; simp only [ByteArray.size_append] at c16b3; have c16b4 := eq_false (Nat.not_lt.2 c16b3)))
                  by_cases c17 : x3_1.size + ((t257 ++ t258) ++ ((rd_T137 l0_6 x16_1).f2)).size ≤ 9223372036854775807
                  · rw [if_pos c17] at H
                    have c17b0 := eq_true c17
                    have c17b1 : decide (x3_1.size + ((t257 ++ t258) ++ ((rd_T137 l0_6 x16_1).f2)).size ≤ 9223372036854775807) = true := decide_eq_true c17
                    try have c17b2 : (9223372036854775807 < x3_1.size + ((t257 ++ t258) ++ ((rd_T137 l0_6 x16_1).f2)).size) = False := eq_false (Nat.not_lt.2 c17)
                    (try (have c17b3 := c17; simp only [ByteArray.size_append] at c17b3; have c17b4 := eq_false (Nat.not_lt.2 c17b3)))
                    have H' := qh10 H
                    clear H
                    have p255 : 0 ≤ (x16_1 : Int) := of_decide_eq_true (by first | (with_reducible assumption) | assumption)
                    have q255 : x16_1 < (l0_6.length : Int) := of_decide_eq_true (by first | (with_reducible assumption) | assumption)
                    obtain ⟨ad255, e255, hx255_0, hx255_1, hx255_2⟩ := at_T137 HR0_6.out x16_1 p255 q255
                    cases e255
                    replace hx255_0 := (HB.out.cell (World.block_lt_of_cell? w _ hx255_0)).trans hx255_0
                    replace hx255_1 := (HB.out.cell (World.block_lt_of_cell? w _ hx255_1)).trans hx255_1
                    replace hx255_2 := (HB.out.cell (World.block_lt_of_cell? w _ hx255_2)).trans hx255_2
                    replace p255 := eq_true p255
                    replace q255 := eq_true q255
                    try go_wp2_with (first | ((with_reducible refine gate_dst (N := 5) rfl ?_); refine box_event ?hg (N := 5) ?hd (cs := #[.int .i64 0, .int .i64 0, .string (⟨#[]⟩ : ByteArray)]) (t := 137) ?hr ?_; (case hd => rfl); (case hg => rfl); (case hr => first | (go_simp; done) | (go_simp; rfl)); intro gb256 hg w18 hbox hb; have n0_ := qh10 (blk_below (g := gb253) (o := .cells #[.bool false, .int .i64 a0_1, .int .i64 a0_2, .int .i64 a0_3, .int .i64 a0_4, .string a0_5, .slice (some ad255) l0_6.length c0_6] 60 (0, 0)) (by (with_reducible repeat (first | apply qa10 | apply qb10 | apply qc10)); exact BK253.out) hb); have n1_ := qh10 (qi10 (by repeat (first | (with_reducible first | exact HB.out | apply qd10 | apply qe10 | apply qf10 | refine qg10 ?_ GE253.out) | exact HB.out)) hb); have n2_ := qh10 (hbox); have n3_ := qh10 ((by rw [hg]; exact (qj10 (by repeat (first | (with_reducible first | exact HB.out | apply qd10 | apply qe10 | apply qf10 | refine qg10 ?_ GE253.out) | exact HB.out))) : w.heap.size ≤ gb256)); have n4_ := qh10 ((by rw [hg]; exact (qj10 (by repeat (first | (with_reducible first | exact HB.out | apply qd10 | apply qe10 | apply qf10 | refine qg10 ?_ GE253.out) | exact HB.out))) : w.heap.size ≤ gb256)); have n5_ := qh10 ((by rw [hg]; exact Nat.ne_of_lt (blk_lt (g := gb253) (o := .cells #[.bool false, .int .i64 a0_1, .int .i64 a0_2, .int .i64 a0_3, .int .i64 a0_4, .string a0_5, .slice (some ad255) l0_6.length c0_6] 60 (0, 0)) (by (with_reducible repeat (first | apply qa10 | apply qb10 | apply qc10)); exact BK253.out)) : gb253 ≠ gb256)); have n6_ := qh10 ((by rw [hg]; exact Nat.ne_of_gt (blk_lt (g := gb253) (o := .cells #[.bool false, .int .i64 a0_1, .int .i64 a0_2, .int .i64 a0_3, .int .i64 a0_4, .string a0_5, .slice (some ad255) l0_6.length c0_6] 60 (0, 0)) (by (with_reducible repeat (first | apply qa10 | apply qb10 | apply qc10)); exact BK253.out)) : gb256 ≠ gb253)); clear BK253; clear HB; have BK253 := n0_; have HB := n1_; have BK256 := n2_; have GW256 := n3_; have GE256 := n4_; have NB253_256 := n5_; have NB256_253 := n6_; clear n0_ n1_ n2_ n3_ n4_ n5_ n6_; clear hb hbox hg; have hnb19 := NB256_253.out; have hnc19 := NB253_256.out; have hcz20_0 : w18.cell? ⟨gb256, 0, none⟩ = some (.int .i64 0) := (blk_cell BK256.out 0).trans rfl; have hcz20_1 : w18.cell? ⟨gb256, 1, none⟩ = some (.int .i64 0) := (blk_cell BK256.out 1).trans rfl; have hcz20_2 : w18.cell? ⟨gb256, 2, none⟩ = some (.string (⟨#[]⟩ : ByteArray)) := (blk_cell BK256.out 2).trans rfl; have hfz20_0 := blk_frozen BK256.out 0; have hfz20_1 := blk_frozen BK256.out 1; have hfz20_2 := blk_frozen BK256.out 2))
                    have n0_ : Aside0 ((((w18.setCell ⟨gb256, 0, none⟩ (.int .i64 ((rd_T137 l0_6 x16_1).f0))).setCell ⟨gb256, 1, none⟩ (.int .i64 ((rd_T137 l0_6 x16_1).f1))).setCell ⟨gb256, 2, none⟩ (.string ((rd_T137 l0_6 x16_1).f2))).heap[gb253]? = some (.cells #[.bool false, .int .i64 a0_1, .int .i64 a0_2, .int .i64 a0_3, .int .i64 a0_4, .string a0_5, .slice (some ad255) l0_6.length c0_6] 60 (0, 0))) := ⟨by (with_reducible repeat (first | apply qa10 | apply qb10 | apply qc10)); refine blk_far ?_ NB253_256.out _; (with_reducible repeat (first | apply qa10 | apply qb10 | apply qc10)); refine blk_far ?_ NB253_256.out _; (with_reducible repeat (first | apply qa10 | apply qb10 | apply qc10)); refine blk_far ?_ NB253_256.out _; (with_reducible repeat (first | apply qa10 | apply qb10 | apply qc10)); exact BK253.out⟩
                    have n1_ : Aside0 ((((w18.setCell ⟨gb256, 0, none⟩ (.int .i64 ((rd_T137 l0_6 x16_1).f0))).setCell ⟨gb256, 1, none⟩ (.int .i64 ((rd_T137 l0_6 x16_1).f1))).setCell ⟨gb256, 2, none⟩ (.string ((rd_T137 l0_6 x16_1).f2))).heap[gb256]? = some (.cells #[.int .i64 ((rd_T137 l0_6 x16_1).f0), .int .i64 ((rd_T137 l0_6 x16_1).f1), .string ((rd_T137 l0_6 x16_1).f2)] 137 (0, 0))) := ⟨by (with_reducible repeat (first | apply qa10 | apply qb10 | apply qc10)); refine blk_put (cs := #[.int .i64 ((rd_T137 l0_6 x16_1).f0), .int .i64 ((rd_T137 l0_6 x16_1).f1), .string (⟨#[]⟩ : ByteArray)]) ?_ 2 _ rfl; (with_reducible repeat (first | apply qa10 | apply qb10 | apply qc10)); refine blk_put (cs := #[.int .i64 ((rd_T137 l0_6 x16_1).f0), .int .i64 0, .string (⟨#[]⟩ : ByteArray)]) ?_ 1 _ rfl; (with_reducible repeat (first | apply qa10 | apply qb10 | apply qc10)); refine blk_put (cs := #[.int .i64 0, .int .i64 0, .string (⟨#[]⟩ : ByteArray)]) ?_ 0 _ rfl; (with_reducible repeat (first | apply qa10 | apply qb10 | apply qc10)); exact BK256.out⟩
                    have n2_ : Aside0 (Below w.heap.size w (((w18.setCell ⟨gb256, 0, none⟩ (.int .i64 ((rd_T137 l0_6 x16_1).f0))).setCell ⟨gb256, 1, none⟩ (.int .i64 ((rd_T137 l0_6 x16_1).f1))).setCell ⟨gb256, 2, none⟩ (.string ((rd_T137 l0_6 x16_1).f2)))) := ⟨by repeat (first | (with_reducible first | exact HB.out | apply qd10 | apply qe10 | apply qf10 | refine qg10 ?_ GE253.out | refine qg10 ?_ GE256.out) | exact HB.out)⟩
                    (try clear BK253)
                    (try clear BK256)
                    (try clear HB)
                    generalize (((w18.setCell ⟨gb256, 0, none⟩ (.int .i64 ((rd_T137 l0_6 x16_1).f0))).setCell ⟨gb256, 1, none⟩ (.int .i64 ((rd_T137 l0_6 x16_1).f1))).setCell ⟨gb256, 2, none⟩ (.string ((rd_T137 l0_6 x16_1).f2))) = w21 at n0_ n1_ n2_ ⊢
                    have BK253 := n0_
                    have BK256 := n1_
                    have HB := n2_
                    clear n0_ n1_ n2_
                    have n0_ := qh10 (qb10 BK253.out)
                    have n1_ := qh10 (qb10 BK256.out)
                    have n2_ := qh10 (qf10 HB.out)
                    clear BK253
                    clear BK256
                    clear HB
                    have BK253 := n0_
                    have BK256 := n1_
                    have HB := n2_
                    clear n0_ n1_ n2_
                    refine start_ (n := 13) (S := fun w' => w'.cell? ⟨gb256, 0, none⟩ = some (.int .i64 ((rd_T137 l0_6 x16_1).f0)) ∧ w'.cell? ⟨gb256, 1, none⟩ = some (.int .i64 ((rd_T137 l0_6 x16_1).f1)) ∧ w'.cell? ⟨gb256, 2, none⟩ = some (.string ((rd_T137 l0_6 x16_1).f2))) (ds := []) #[false, false, false, false, false, false, false, false, false, false, false, false, false] (by kernel_rfl) rfl rfl ⟨(blk_cell BK256.out 0).trans rfl, (blk_cell BK256.out 1).trans rfl, (blk_cell BK256.out 2).trans rfl⟩ (fun hHeld => ?_); refine with_tabW impl_batchText.tab7 impl_batchText.bits7 (fun HT_ HW_ => ?_)
                    generalize w21.drew = w22 at BK253 BK256 HB hHeld ⊢
                    refine pure_ (i := 0) (N := some 20) (v := ?_) (a' := ?_) #[true, false, false, false, false, false, false, false, false, false, false, false, false] rfl rfl (any_of HT_.out (by kernel_rfl)) (fun _ _ _ h => h) (Or.inl ⟨by rfl, ?_⟩) ?_ ?_
                    rotate_left
                    · intro w'
                      go_simp
                      with_reducible rfl
                    rotate_left
                    · simp only [Act.put, List.setIfInBounds_toArray, List.set_cons_zero, List.set_cons_succ, i64_w, i32_w]
                      rfl
                    refine pure_ (i := 1) (N := some 21) (v := ?_) (a' := ?_) #[true, true, false, false, false, false, false, false, false, false, false, false, false] rfl rfl (any_of HT_.out (by kernel_rfl)) (fun _ _ _ h => h) (Or.inl ⟨by rfl, ?_⟩) ?_ ?_
                    rotate_left
                    · intro w'
                      go_simp
                      with_reducible rfl
                    rotate_left
                    · simp only [Act.put, List.setIfInBounds_toArray, List.set_cons_zero, List.set_cons_succ, i64_w, i32_w]
                      rfl
                    refine pure_ (i := 4) (N := some 24) (v := ?_) (a' := ?_) #[true, true, false, false, true, false, false, false, false, false, false, false, false] rfl rfl (any_of HT_.out (by kernel_rfl)) (fun _ _ _ h => h) (Or.inl ⟨by rfl, ?_⟩) ?_ ?_
                    rotate_left
                    · intro w'
                      go_simp
                      with_reducible rfl
                    rotate_left
                    · simp only [Act.put, List.setIfInBounds_toArray, List.set_cons_zero, List.set_cons_succ, i64_w, i32_w]
                      rfl
                    refine pure_ (i := 8) (N := some 28) (v := ?_) (a' := ?_) #[true, true, false, false, true, false, false, false, true, false, false, false, false] rfl rfl (any_of HT_.out (by kernel_rfl)) (fun _ _ _ h => h) (Or.inl ⟨by rfl, ?_⟩) ?_ ?_
                    rotate_left
                    · intro w'
                      go_simp
                      with_reducible rfl
                    rotate_left
                    · simp only [Act.put, List.setIfInBounds_toArray, List.set_cons_zero, List.set_cons_succ, i64_w, i32_w]
                      rfl
                    refine take_ (i := 2) (N := some 22) (v := ?_) (a' := ?_) #[true, true, true, false, true, false, false, false, true, false, false, false, false] rfl rfl (take_ofW HT_.out HW_.out (by kernel_rfl)) (fun _ _ _ h => h) (Or.inl ⟨by rfl, ?_⟩) hHeld ?_ ?_
                    rotate_left
                    · rintro w' ⟨s0, s1, s2⟩
                      go_simp
                      with_reducible rfl
                    rotate_left
                    · simp only [Act.put, List.setIfInBounds_toArray, List.set_cons_zero, List.set_cons_succ, i64_w, i32_w]
                      rfl
                    refine take_ (i := 5) (N := some 25) (v := ?_) (a' := ?_) #[true, true, true, false, true, true, false, false, true, false, false, false, false] rfl rfl (take_ofW HT_.out HW_.out (by kernel_rfl)) (fun _ _ _ h => h) (Or.inl ⟨by rfl, ?_⟩) hHeld ?_ ?_
                    rotate_left
                    · rintro w' ⟨s0, s1, s2⟩
                      go_simp
                      with_reducible rfl
                    rotate_left
                    · simp only [Act.put, List.setIfInBounds_toArray, List.set_cons_zero, List.set_cons_succ, i64_w, i32_w]
                      rfl
                    refine take_ (i := 9) (N := some 29) (v := ?_) (a' := ?_) #[true, true, true, false, true, true, false, false, true, true, false, false, false] rfl rfl (take_ofW HT_.out HW_.out (by kernel_rfl)) (fun _ _ _ h => h) (Or.inl ⟨by rfl, ?_⟩) hHeld ?_ ?_
                    rotate_left
                    · rintro w' ⟨s0, s1, s2⟩
                      go_simp
                      with_reducible rfl
                    rotate_left
                    · simp only [Act.put, List.setIfInBounds_toArray, List.set_cons_zero, List.set_cons_succ, i64_w, i32_w]
                      rfl
                    refine one_ (i := 3) (N := some 23) #[true, true, true, true, true, true, false, false, true, true, false, false, false] rfl rfl (one_of HT_.out (by kernel_rfl)) (by decide) (fun K hK => ?_)
                    refine goes_ Try.func113 (by kernel_rfl) rfl #[.int .i64 ((rd_T137 l0_6 x16_1).f0), .int .i64 1] (by rfl) rfl rfl (by (try simp only [List.map_toArray, List.map_cons, List.map_nil]); first | done | rfl | (simp only [List.length_drop, List.length_take]; rfl)) ?_
                    with_reducible refine (impl_number.calls k1 ((rd_T137 l0_6 x16_1).f0) 1 t257 _ A13.out).mono ?_
                    rintro e w23 ⟨rfl, hb⟩
                    refine ⟨_, rfl, ?_⟩
                    have n0_ := qh10 (blk_below (g := gb253) (o := .cells #[.bool false, .int .i64 a0_1, .int .i64 a0_2, .int .i64 a0_3, .int .i64 a0_4, .string a0_5, .slice (some ad255) l0_6.length c0_6] 60 (0, 0)) (by (with_reducible repeat (first | apply qa10 | apply qb10 | apply qc10)); exact BK253.out) hb)
                    have n1_ := qh10 (blk_below (g := gb256) (o := .cells #[.int .i64 ((rd_T137 l0_6 x16_1).f0), .int .i64 ((rd_T137 l0_6 x16_1).f1), .string ((rd_T137 l0_6 x16_1).f2)] 137 (0, 0)) (by (with_reducible repeat (first | apply qa10 | apply qb10 | apply qc10)); exact BK256.out) hb)
                    have n2_ := qh10 (qi10 (by repeat (first | (with_reducible first | exact HB.out | apply qd10 | apply qe10 | apply qf10 | refine qg10 ?_ GE253.out | refine qg10 ?_ GE256.out) | exact HB.out)) hb)
                    clear BK253
                    clear BK256
                    clear HB
                    have BK253 := n0_
                    have BK256 := n1_
                    have HB := n2_
                    clear n0_ n1_ n2_
                    (try clear hb)
                    (try clear hb2)
                    (try clear hk)
                    (try clear hi)
                    refine hK.out _ _ ⟨(blk_cell BK256.out 0).trans rfl, (blk_cell BK256.out 1).trans rfl, (blk_cell BK256.out 2).trans rfl⟩ (fun hHeld => ?_)
                    clear hK K
                    refine norm_ (a' := ?_) ?_ ?_
                    rotate_left
                    · show Act.put _ (some 23) _ = _
                      simp only [Act.put, List.setIfInBounds_toArray, List.set_cons_zero, List.set_cons_succ, i64_w, i32_w]
                      rfl
                    refine one_ (i := 6) (N := some 26) #[true, true, true, true, true, true, true, false, true, true, false, false, false] rfl rfl (one_of HT_.out (by kernel_rfl)) (by decide) (fun K hK => ?_)
                    refine goes_ Try.func113 (by kernel_rfl) rfl #[.int .i64 ((rd_T137 l0_6 x16_1).f1), .int .i64 4] (by rfl) rfl rfl (by (try simp only [List.map_toArray, List.map_cons, List.map_nil]); first | done | rfl | (simp only [List.length_drop, List.length_take]; rfl)) ?_
                    with_reducible refine (impl_number.calls k1 ((rd_T137 l0_6 x16_1).f1) 4 t258 _ A14.out).mono ?_
                    rintro e w24 ⟨rfl, hb⟩
                    refine ⟨_, rfl, ?_⟩
                    have n0_ := qh10 (blk_below (g := gb253) (o := .cells #[.bool false, .int .i64 a0_1, .int .i64 a0_2, .int .i64 a0_3, .int .i64 a0_4, .string a0_5, .slice (some ad255) l0_6.length c0_6] 60 (0, 0)) (by (with_reducible repeat (first | apply qa10 | apply qb10 | apply qc10)); exact BK253.out) hb)
                    have n1_ := qh10 (blk_below (g := gb256) (o := .cells #[.int .i64 ((rd_T137 l0_6 x16_1).f0), .int .i64 ((rd_T137 l0_6 x16_1).f1), .string ((rd_T137 l0_6 x16_1).f2)] 137 (0, 0)) (by (with_reducible repeat (first | apply qa10 | apply qb10 | apply qc10)); exact BK256.out) hb)
                    have n2_ := qh10 (qi10 (by repeat (first | (with_reducible first | exact HB.out | apply qd10 | apply qe10 | apply qf10 | refine qg10 ?_ GE253.out | refine qg10 ?_ GE256.out) | exact HB.out)) hb)
                    clear BK253
                    clear BK256
                    clear HB
                    have BK253 := n0_
                    have BK256 := n1_
                    have HB := n2_
                    clear n0_ n1_ n2_
                    (try clear hb)
                    (try clear hb2)
                    (try clear hk)
                    (try clear hi)
                    refine hK.out _ _ ⟨(blk_cell BK256.out 0).trans rfl, (blk_cell BK256.out 1).trans rfl, (blk_cell BK256.out 2).trans rfl⟩ (fun hHeld => ?_)
                    clear hK K
                    refine norm_ (a' := ?_) ?_ ?_
                    rotate_left
                    · show Act.put _ (some 26) _ = _
                      simp only [Act.put, List.setIfInBounds_toArray, List.set_cons_zero, List.set_cons_succ, i64_w, i32_w]
                      rfl
                    refine pure_ (i := 7) (N := some 27) (v := ?_) (a' := ?_) #[true, true, true, true, true, true, true, true, true, true, false, false, false] rfl rfl (any_of HT_.out (by kernel_rfl)) (fun _ _ _ h => h) (Or.inl ⟨by rfl, ?_⟩) ?_ ?_
                    rotate_left
                    · intro w'
                      go_simp
                      with_reducible rfl
                    rotate_left
                    · simp only [Act.put, List.setIfInBounds_toArray, List.set_cons_zero, List.set_cons_succ, i64_w, i32_w]
                      rfl
                    refine pure_ (i := 10) (N := some 30) (v := ?_) (a' := ?_) #[true, true, true, true, true, true, true, true, true, true, true, false, false] rfl rfl (any_of HT_.out (by kernel_rfl)) (fun _ _ _ h => h) (Or.inl ⟨by rfl, ?_⟩) ?_ ?_
                    rotate_left
                    · intro w'
                      go_simp
                      with_reducible rfl
                    rotate_left
                    · simp only [Act.put, List.setIfInBounds_toArray, List.set_cons_zero, List.set_cons_succ, i64_w, i32_w]
                      rfl
                    refine pure_ (i := 11) (N := some 31) (v := ?_) (a' := ?_) #[true, true, true, true, true, true, true, true, true, true, true, true, false] rfl rfl (any_of HT_.out (by kernel_rfl)) (fun _ _ _ h => h) (Or.inl ⟨by rfl, ?_⟩) ?_ ?_
                    rotate_left
                    · intro w'
                      go_simp
                      with_reducible rfl
                    rotate_left
                    · simp only [Act.put, List.setIfInBounds_toArray, List.set_cons_zero, List.set_cons_succ, i64_w, i32_w]
                      rfl
                    refine pure_ (i := 12) (N := some 3) (v := ?_) (a' := ?_) #[true, true, true, true, true, true, true, true, true, true, true, true, true] rfl rfl (any_of HT_.out (by kernel_rfl)) (fun _ _ _ h => h) (Or.inl ⟨by rfl, ?_⟩) ?_ ?_
                    rotate_left
                    · intro w'
                      go_simp
                      with_reducible rfl
                    rotate_left
                    · simp only [Act.put, List.setIfInBounds_toArray, List.set_cons_zero, List.set_cons_succ, i64_w, i32_w]
                      rfl
                    refine done_ (done_of HT_.out (by kernel_rfl)) ?_
                    try go_wp2
                    go_roundg k1
                    case measure => have := HK1.out; omega
                    case rel => exact ⟨(x3_1 ++ ((t257 ++ t258) ++ ((rd_T137 l0_6 x16_1).f2))), (wrap64 (x16_1 + 1)), (by first | rfl | (simp; done) | (simp [*]; done)), (by first | rfl | (simp; done) | (simp [*]; done)), H', ⟨by have := HK1.out; omega⟩, ⟨by (with_reducible repeat (first | apply qa10 | apply qb10 | apply qc10)); exact BK253.out⟩, ⟨by repeat (first | (with_reducible first | exact HB.out | apply qd10 | apply qe10 | apply qf10 | refine qg10 ?_ GE253.out | refine qg10 ?_ GE256.out) | exact HB.out)⟩⟩
                  · rw [if_neg c17] at H
                    exact absurd H (by simp)
                · rw [if_neg c16] at H
                  exact absurd H (by simp)
              · rw [if_neg c15] at H
                exact absurd H (by simp)
            · rw [if_neg c12] at H
              exact absurd H (by simp)
          · rw [if_neg c11] at H
            exact absurd H (by simp)
        · rw [if_neg c10] at H
          have c10b0 : decide (x16_1 < (l0_6.length : Int)) = false := decide_eq_false c10
          clear c10
          replace H := Option.bind_eq_some_iff.mp H
          obtain ⟨t259, A250, H⟩ := H
          replace H : (if x3_1.size + t259.size ≤ 9223372036854775807 then (some (x3_1 ++ t259)) else (none)) = some r := H
          have A25 := qh10 A250
          clear A250
          by_cases c26 : x3_1.size + t259.size ≤ 9223372036854775807
          · rw [if_pos c26] at H
            have c26b0 := eq_true c26
            have c26b1 : decide (x3_1.size + t259.size ≤ 9223372036854775807) = true := decide_eq_true c26
            try have c26b2 : (9223372036854775807 < x3_1.size + t259.size) = False := eq_false (Nat.not_lt.2 c26)
            obtain rfl := Option.some.inj H
            have hcz27_0 : wr.cell? ⟨gb253, 0, none⟩ = some (.bool false) := (blk_cell BK253.out 0).trans rfl
            have hcz27_1 : wr.cell? ⟨gb253, 1, none⟩ = some (.int .i64 a0_1) := (blk_cell BK253.out 1).trans rfl
            have hcz27_2 : wr.cell? ⟨gb253, 2, none⟩ = some (.int .i64 a0_2) := (blk_cell BK253.out 2).trans rfl
            have hcz27_3 : wr.cell? ⟨gb253, 3, none⟩ = some (.int .i64 a0_3) := (blk_cell BK253.out 3).trans rfl
            have hcz27_4 : wr.cell? ⟨gb253, 4, none⟩ = some (.int .i64 a0_4) := (blk_cell BK253.out 4).trans rfl
            have hcz27_5 : wr.cell? ⟨gb253, 5, none⟩ = some (.string a0_5) := (blk_cell BK253.out 5).trans rfl
            have hcz27_6 : wr.cell? ⟨gb253, 6, none⟩ = some (.slice A0_6 l0_6.length c0_6) := (blk_cell BK253.out 6).trans rfl
            have hfz27_0 := blk_frozen BK253.out 0
            have hfz27_1 := blk_frozen BK253.out 1
            have hfz27_2 := blk_frozen BK253.out 2
            have hfz27_3 := blk_frozen BK253.out 3
            have hfz27_4 := blk_frozen BK253.out 4
            have hfz27_5 := blk_frozen BK253.out 5
            have hfz27_6 := blk_frozen BK253.out 6
            go_wp2_with (first | ((with_reducible refine gate_callee (f := 77) rfl ?_); refine goesL_ (some 36) rfl rfl Try.func77 (by kernel_rfl) rfl #[.agg #[.int .i64 a0_1, .int .i64 a0_2, .int .i64 a0_3, .int .i64 a0_4, .string a0_5]] rfl (by (try simp only [List.map_toArray, List.map_cons, List.map_nil]); first | done | rfl | (simp only [List.length_drop, List.length_take]; rfl)) ?_; (with_reducible refine (impl_requestText.calls k1 a0_1 a0_2 a0_3 a0_4 a0_5 t259 _ A25.out).mono ?_); rintro e w28 ⟨rfl, hb⟩; refine ⟨_, rfl, ?_⟩; have n0_ := qh10 (blk_below (g := gb253) (o := .cells #[.bool false, .int .i64 a0_1, .int .i64 a0_2, .int .i64 a0_3, .int .i64 a0_4, .string a0_5, .slice A0_6 l0_6.length c0_6] 60 (0, 0)) (by (with_reducible repeat (first | apply qa10 | apply qb10 | apply qc10)); exact BK253.out) hb); have n1_ := qh10 (qi10 (by repeat (first | (with_reducible first | exact HB.out | apply qd10 | apply qe10 | apply qf10 | refine qg10 ?_ GE253.out) | exact HB.out)) hb); clear BK253; clear HB; have BK253 := n0_; have HB := n1_; clear n0_ n1_; (try clear hb); (try clear hb2); (try clear hk); (try clear hi)))
            go_ret
            exact ⟨by first | rfl | (simp [errW_none, errW_some] <;> rfl) | (simp [*, errW_none, errW_some] <;> rfl), by repeat (first | (with_reducible first | exact HB.out | apply qd10 | apply qe10 | apply qf10 | refine qg10 ?_ GE253.out) | exact HB.out)⟩
          · rw [if_neg c26] at H
            exact absurd H (by simp)

/-! ### impl_BatchBytes: function 46 -/
def impl_BatchBytes.f (k : Nat) (a0_0 : Bool) (a0_1 : Int) (a0_2 : Int) (a0_3 : Int) (a0_4 : Int) (a0_5 : ByteArray) (l0_6 : List (S137)) : Option (List Int × Int) := (impl_isBatch.f k a0_0 a0_1 a0_2 a0_3 a0_4 a0_5 l0_6).bind fun t261 => (if t261 = true then ((impl_batchText.f k a0_0 a0_1 a0_2 a0_3 a0_4 a0_5 l0_6).bind fun t262 => (if t262.size ≤ 9223372036854775807 then (some ((bytesOf t262), 0)) else (none))) else (some (([] : List Int), 1)))
theorem impl_BatchBytes.mono : ∀ a0 a1 a2 a3 a4 a5 a6 k, LeO (impl_BatchBytes.f k a0 a1 a2 a3 a4 a5 a6) (impl_BatchBytes.f (k + 1) a0 a1 a2 a3 a4 a5 a6) := by
  intro a0 a1 a2 a3 a4 a5 a6 k
  unfold impl_BatchBytes.f
  repeat' first
      | (with_reducible exact impl_batchText.mono _ _ _ _ _ _ _ _)
      | (with_reducible exact impl_isBatch.mono _ _ _ _ _ _ _ _)
      | (with_reducible exact LeO.refl _)
      | (with_reducible exact LeO.none _)
      | (with_reducible refine LeO.ite ?_ ?_)
      | (with_reducible refine LeO.bind ?_ (fun _ => ?_))
      | exact impl_batchText.mono _ _ _ _ _ _ _ _
      | exact impl_isBatch.mono _ _ _ _ _ _ _ _
      | exact LeO.none _
      | refine LeO.ite ?_ ?_
      | refine LeO.bind ?_ (fun _ => ?_)
set_option maxHeartbeats 8000000 in
set_option maxRecDepth 100000 in
theorem impl_BatchBytes.calls (k : Nat) (a0_0 : Bool) (a0_1 : Int) (a0_2 : Int) (a0_3 : Int) (a0_4 : Int) (a0_5 : ByteArray) (A0_6 : Option Addr) (c0_6 : Nat) (l0_6 : List (S137)) (r1 : List Int) (r2 : Int) (w : World) (hr0_6 : Kd.C k137 w A0_6 l0_6.length l0_6) (hc0_6 : l0_6.length ≤ c0_6) (h : impl_BatchBytes.f k a0_0 a0_1 a0_2 a0_3 a0_4 a0_5 l0_6 = some (r1, r2)) :
    Calls Try.prog 46 #[.agg #[.bool a0_0, .int .i64 a0_1, .int .i64 a0_2, .int .i64 a0_3, .int .i64 a0_4, .string a0_5, .slice A0_6 l0_6.length c0_6]] w fun e w' => ∃ v0_ : Value, e = .returned (.tuple #[v0_, .int .i64 r2]) ∧ Kd.R (Kd.int .u8) 5 w' w.heap.size (fun _ => True) v0_ r1 ∧ Below w.heap.size w w' := by
  have hu60 := Try.underlying60
  have HR0_6 := qh10 hr0_6
  have HC0_6 := qh10 hc0_6
  clear hr0_6 hc0_6
  have HB := qh10 (Below.refl w.heap.size w)
  have H : ((impl_isBatch.f k a0_0 a0_1 a0_2 a0_3 a0_4 a0_5 l0_6).bind fun t261 => (if t261 = true then ((impl_batchText.f k a0_0 a0_1 a0_2 a0_3 a0_4 a0_5 l0_6).bind fun t262 => (if t262.size ≤ 9223372036854775807 then (some ((bytesOf t262), 0)) else (none))) else (some (([] : List Int), 1)))) = some (r1, r2) := h
  clear h
  replace H := Option.bind_eq_some_iff.mp H
  obtain ⟨t261, A20, H⟩ := H
  replace H : (if t261 = true then ((impl_batchText.f k a0_0 a0_1 a0_2 a0_3 a0_4 a0_5 l0_6).bind fun t262 => (if t262.size ≤ 9223372036854775807 then (some ((bytesOf t262), 0)) else (none))) else (some (([] : List Int), 1))) = some (r1, r2) := H
  have A2 := qh10 A20
  clear A20
  by_cases c3 : t261 = true
  · subst c3
    have H1 : ((impl_batchText.f k a0_0 a0_1 a0_2 a0_3 a0_4 a0_5 l0_6).bind fun t262 => (if t262.size ≤ 9223372036854775807 then (some ((bytesOf t262), 0)) else (none))) = some (r1, r2) := by rw [if_pos rfl] at H; exact H
    clear H
    have H := H1
    clear H1
    replace H := Option.bind_eq_some_iff.mp H
    obtain ⟨t262, A40, H⟩ := H
    replace H : (if t262.size ≤ 9223372036854775807 then (some ((bytesOf t262), 0)) else (none)) = some (r1, r2) := H
    have A4 := qh10 A40
    clear A40
    by_cases c5 : t262.size ≤ 9223372036854775807
    · rw [if_pos c5] at H
      have c5b0 := eq_true c5
      have c5b1 : decide (t262.size ≤ 9223372036854775807) = true := decide_eq_true c5
      try have c5b2 : (9223372036854775807 < t262.size) = False := eq_false (Nat.not_lt.2 c5)
      clear c5
      obtain ⟨y263, hy263⟩ : ∃ y_ : List Int, y_ = (bytesOf t262) := ⟨_, rfl⟩
      replace H : (some (y263, 0)) = some (r1, r2) := by first | (rw [hy263]; with_reducible exact H) | (have H2_ := (Option.bind_some _ _).symm.trans H; rw [hy263]; with_reducible exact H2_) | (have H2_ := (Option.bind_some _ _).symm.trans H; with_reducible exact H2_) | with_reducible exact H | (rw [hy263]; exact H) | exact H
      have Ny263 := qh10 hy263
      clear hy263
      simp only [Option.some.injEq, Prod.mk.injEq] at H
      obtain ⟨rfl, rfl⟩ := H
      go_enter Try.func46, Try.ntmps46
      go_wp2_with (first | ((with_reducible refine gate_dst (N := 1) rfl ?_); refine box_event ?hg (N := 1) ?hd (cs := #[.bool a0_0, .int .i64 a0_1, .int .i64 a0_2, .int .i64 a0_3, .int .i64 a0_4, .string a0_5, .slice A0_6 l0_6.length c0_6]) (t := 60) ?hr ?_; (case hd => rfl); (case hg => rfl); (case hr => first | (go_simp; done) | (go_simp; rfl)); intro gb260 hg w6 hbox hb; have n0_ := qh10 (qi10 (by repeat (first | (with_reducible first | exact HB.out | apply qd10 | apply qe10 | apply qf10) | exact HB.out)) hb); have n1_ := qh10 (hbox); have n2_ := qh10 ((by rw [hg]; exact (qj10 (by repeat (first | (with_reducible first | exact HB.out | apply qd10 | apply qe10 | apply qf10) | exact HB.out))) : w.heap.size ≤ gb260)); have n3_ := qh10 ((by rw [hg]; exact (qj10 (by repeat (first | (with_reducible first | exact HB.out | apply qd10 | apply qe10 | apply qf10) | exact HB.out))) : w.heap.size ≤ gb260)); clear HB; have HB := n0_; have BK260 := n1_; have GW260 := n2_; have GE260 := n3_; clear n0_ n1_ n2_ n3_; clear hb hbox hg; have hcz7_0 : w6.cell? ⟨gb260, 0, none⟩ = some (.bool a0_0) := (blk_cell BK260.out 0).trans rfl; have hcz7_1 : w6.cell? ⟨gb260, 1, none⟩ = some (.int .i64 a0_1) := (blk_cell BK260.out 1).trans rfl; have hcz7_2 : w6.cell? ⟨gb260, 2, none⟩ = some (.int .i64 a0_2) := (blk_cell BK260.out 2).trans rfl; have hcz7_3 : w6.cell? ⟨gb260, 3, none⟩ = some (.int .i64 a0_3) := (blk_cell BK260.out 3).trans rfl; have hcz7_4 : w6.cell? ⟨gb260, 4, none⟩ = some (.int .i64 a0_4) := (blk_cell BK260.out 4).trans rfl; have hcz7_5 : w6.cell? ⟨gb260, 5, none⟩ = some (.string a0_5) := (blk_cell BK260.out 5).trans rfl; have hcz7_6 : w6.cell? ⟨gb260, 6, none⟩ = some (.slice A0_6 l0_6.length c0_6) := (blk_cell BK260.out 6).trans rfl; have hfz7_0 := blk_frozen BK260.out 0; have hfz7_1 := blk_frozen BK260.out 1; have hfz7_2 := blk_frozen BK260.out 2; have hfz7_3 := blk_frozen BK260.out 3; have hfz7_4 := blk_frozen BK260.out 4; have hfz7_5 := blk_frozen BK260.out 5; have hfz7_6 := blk_frozen BK260.out 6) | ((with_reducible refine gate_callee (f := 86) rfl ?_); refine goesL_ (some 5) rfl rfl Try.func86 (by kernel_rfl) rfl #[.agg #[.bool a0_0, .int .i64 a0_1, .int .i64 a0_2, .int .i64 a0_3, .int .i64 a0_4, .string a0_5, .slice A0_6 l0_6.length c0_6]] rfl (by (try simp only [List.map_toArray, List.map_cons, List.map_nil]); first | done | rfl | (simp only [List.length_drop, List.length_take]; rfl)) ?_; (with_reducible refine (impl_isBatch.calls k a0_0 a0_1 a0_2 a0_3 a0_4 a0_5 _ _ l0_6 true _ ?side1 ?side2 A2.out).mono ?_); (case side1 => repeat (first | exact (Kd.C_below HR0_6.out HB.out) | (with_reducible refine Kd.C_alloc ?_ _) | (with_reducible refine Kd.C_drewN ?_ _) | (with_reducible refine Kd.C_drew ?_))); (case side2 => exact HC0_6.out); rintro e w8 ⟨rfl, hb⟩; refine ⟨_, rfl, ?_⟩; have n0_ := qh10 (blk_below (g := gb260) (o := .cells #[.bool a0_0, .int .i64 a0_1, .int .i64 a0_2, .int .i64 a0_3, .int .i64 a0_4, .string a0_5, .slice A0_6 l0_6.length c0_6] 60 (0, 0)) (by (with_reducible repeat (first | apply qa10 | apply qb10 | apply qc10)); exact BK260.out) hb); have n1_ := qh10 (qi10 (by repeat (first | (with_reducible first | exact HB.out | apply qd10 | apply qe10 | apply qf10 | refine qg10 ?_ GE260.out) | exact HB.out)) hb); clear BK260; clear HB; have BK260 := n0_; have HB := n1_; clear n0_ n1_; (try clear hb); (try clear hb2); (try clear hk); (try clear hi); have hcz9_0 : w8.cell? ⟨gb260, 0, none⟩ = some (.bool a0_0) := (blk_cell BK260.out 0).trans rfl; have hcz9_1 : w8.cell? ⟨gb260, 1, none⟩ = some (.int .i64 a0_1) := (blk_cell BK260.out 1).trans rfl; have hcz9_2 : w8.cell? ⟨gb260, 2, none⟩ = some (.int .i64 a0_2) := (blk_cell BK260.out 2).trans rfl; have hcz9_3 : w8.cell? ⟨gb260, 3, none⟩ = some (.int .i64 a0_3) := (blk_cell BK260.out 3).trans rfl; have hcz9_4 : w8.cell? ⟨gb260, 4, none⟩ = some (.int .i64 a0_4) := (blk_cell BK260.out 4).trans rfl; have hcz9_5 : w8.cell? ⟨gb260, 5, none⟩ = some (.string a0_5) := (blk_cell BK260.out 5).trans rfl; have hcz9_6 : w8.cell? ⟨gb260, 6, none⟩ = some (.slice A0_6 l0_6.length c0_6) := (blk_cell BK260.out 6).trans rfl; have hfz9_0 := blk_frozen BK260.out 0; have hfz9_1 := blk_frozen BK260.out 1; have hfz9_2 := blk_frozen BK260.out 2; have hfz9_3 := blk_frozen BK260.out 3; have hfz9_4 := blk_frozen BK260.out 4; have hfz9_5 := blk_frozen BK260.out 5; have hfz9_6 := blk_frozen BK260.out 6) | ((with_reducible refine gate_callee (f := 87) rfl ?_); refine goesL_ (some 8) rfl rfl Try.func87 (by kernel_rfl) rfl #[.agg #[.bool a0_0, .int .i64 a0_1, .int .i64 a0_2, .int .i64 a0_3, .int .i64 a0_4, .string a0_5, .slice A0_6 l0_6.length c0_6]] rfl (by (try simp only [List.map_toArray, List.map_cons, List.map_nil]); first | done | rfl | (simp only [List.length_drop, List.length_take]; rfl)) ?_; (with_reducible refine (impl_batchText.calls k a0_0 a0_1 a0_2 a0_3 a0_4 a0_5 _ _ l0_6 t262 _ ?side1 ?side2 A4.out).mono ?_); (case side1 => repeat (first | exact (Kd.C_below HR0_6.out HB.out) | (with_reducible refine Kd.C_alloc ?_ _) | (with_reducible refine Kd.C_drewN ?_ _) | (with_reducible refine Kd.C_drew ?_))); (case side2 => exact HC0_6.out); rintro e w10 ⟨rfl, hb⟩; refine ⟨_, rfl, ?_⟩; have n0_ := qh10 (blk_below (g := gb260) (o := .cells #[.bool a0_0, .int .i64 a0_1, .int .i64 a0_2, .int .i64 a0_3, .int .i64 a0_4, .string a0_5, .slice A0_6 l0_6.length c0_6] 60 (0, 0)) (by (with_reducible repeat (first | apply qa10 | apply qb10 | apply qc10)); exact BK260.out) hb); have n1_ := qh10 (qi10 (by repeat (first | (with_reducible first | exact HB.out | apply qd10 | apply qe10 | apply qf10 | refine qg10 ?_ GE260.out) | exact HB.out)) hb); clear BK260; clear HB; have BK260 := n0_; have HB := n1_; clear n0_ n1_; (try clear hb); (try clear hb2); (try clear hk); (try clear hi)) | ((with_reducible refine gate_dst (N := 9) rfl ?_); refine R_bytes _ 5 rfl (N := 9) rfl 9 26 _ rfl t262 rfl Try.underlying9 Try.underlying26 Try.underlying5 (ok := fun _ => True) trivial (of_decide_eq_true (by first | (with_reducible assumption) | assumption)) (Below.refl _ _) (Nat.le_refl _) ?_; intro v264 w11 ho12 hb hg_ hnew_; clear hg_ hnew_; (first | rw [← Ny263.out] at ho12 | (simp only [Int.reduceToNat] at ho12; rw [← Ny263.out] at ho12)); have n0_ := qh10 (Kd.R_lower ho12 (qj10 (by repeat (first | (with_reducible first | exact HB.out | apply qd10 | apply qe10 | apply qf10 | refine qg10 ?_ GE260.out) | exact HB.out)))); have n1_ := qh10 (blk_below (g := gb260) (o := .cells #[.bool a0_0, .int .i64 a0_1, .int .i64 a0_2, .int .i64 a0_3, .int .i64 a0_4, .string a0_5, .slice A0_6 l0_6.length c0_6] 60 (0, 0)) (by (with_reducible repeat (first | apply qa10 | apply qb10 | apply qc10)); exact BK260.out) hb); have n2_ := qh10 (qi10 (by repeat (first | (with_reducible first | exact HB.out | apply qd10 | apply qe10 | apply qf10 | refine qg10 ?_ GE260.out) | exact HB.out)) hb); clear BK260; clear HB; have HO265 := n0_; have BK260 := n1_; have HB := n2_; clear n0_ n1_ n2_; clear hb ho12))
      go_ret2
      exact ⟨_, by first | rfl | (simp [errW_none, errW_some] <;> rfl) | (simp [*, errW_none, errW_some] <;> rfl), by (with_reducible repeat (first | apply Kd.R_alloc | apply Kd.R_drewN | apply Kd.R_drew)); exact HO265.out, by repeat (first | (with_reducible first | exact HB.out | apply qd10 | apply qe10 | apply qf10 | refine qg10 ?_ GE260.out) | exact HB.out)⟩
    · rw [if_neg c5] at H
      exact absurd H (by simp)
  · replace c3 := Bool.eq_false_iff.mpr c3
    subst c3
    have H1 : (some (([] : List Int), 1)) = some (r1, r2) := by rw [if_neg (show ¬ (false = true) by decide)] at H; exact H
    clear H
    have H := H1
    clear H1
    simp only [Option.some.injEq, Prod.mk.injEq] at H
    obtain ⟨rfl, rfl⟩ := H
    go_enter Try.func46, Try.ntmps46
    go_wp2_with (first | ((with_reducible refine gate_dst (N := 1) rfl ?_); refine box_event ?hg (N := 1) ?hd (cs := #[.bool a0_0, .int .i64 a0_1, .int .i64 a0_2, .int .i64 a0_3, .int .i64 a0_4, .string a0_5, .slice A0_6 l0_6.length c0_6]) (t := 60) ?hr ?_; (case hd => rfl); (case hg => rfl); (case hr => first | (go_simp; done) | (go_simp; rfl)); intro gb260 hg w13 hbox hb; have n0_ := qh10 (qi10 (by repeat (first | (with_reducible first | exact HB.out | apply qd10 | apply qe10 | apply qf10) | exact HB.out)) hb); have n1_ := qh10 (hbox); have n2_ := qh10 ((by rw [hg]; exact (qj10 (by repeat (first | (with_reducible first | exact HB.out | apply qd10 | apply qe10 | apply qf10) | exact HB.out))) : w.heap.size ≤ gb260)); have n3_ := qh10 ((by rw [hg]; exact (qj10 (by repeat (first | (with_reducible first | exact HB.out | apply qd10 | apply qe10 | apply qf10) | exact HB.out))) : w.heap.size ≤ gb260)); clear HB; have HB := n0_; have BK260 := n1_; have GW260 := n2_; have GE260 := n3_; clear n0_ n1_ n2_ n3_; clear hb hbox hg; have hcz14_0 : w13.cell? ⟨gb260, 0, none⟩ = some (.bool a0_0) := (blk_cell BK260.out 0).trans rfl; have hcz14_1 : w13.cell? ⟨gb260, 1, none⟩ = some (.int .i64 a0_1) := (blk_cell BK260.out 1).trans rfl; have hcz14_2 : w13.cell? ⟨gb260, 2, none⟩ = some (.int .i64 a0_2) := (blk_cell BK260.out 2).trans rfl; have hcz14_3 : w13.cell? ⟨gb260, 3, none⟩ = some (.int .i64 a0_3) := (blk_cell BK260.out 3).trans rfl; have hcz14_4 : w13.cell? ⟨gb260, 4, none⟩ = some (.int .i64 a0_4) := (blk_cell BK260.out 4).trans rfl; have hcz14_5 : w13.cell? ⟨gb260, 5, none⟩ = some (.string a0_5) := (blk_cell BK260.out 5).trans rfl; have hcz14_6 : w13.cell? ⟨gb260, 6, none⟩ = some (.slice A0_6 l0_6.length c0_6) := (blk_cell BK260.out 6).trans rfl; have hfz14_0 := blk_frozen BK260.out 0; have hfz14_1 := blk_frozen BK260.out 1; have hfz14_2 := blk_frozen BK260.out 2; have hfz14_3 := blk_frozen BK260.out 3; have hfz14_4 := blk_frozen BK260.out 4; have hfz14_5 := blk_frozen BK260.out 5; have hfz14_6 := blk_frozen BK260.out 6) | ((with_reducible refine gate_callee (f := 86) rfl ?_); refine goesL_ (some 5) rfl rfl Try.func86 (by kernel_rfl) rfl #[.agg #[.bool a0_0, .int .i64 a0_1, .int .i64 a0_2, .int .i64 a0_3, .int .i64 a0_4, .string a0_5, .slice A0_6 l0_6.length c0_6]] rfl (by (try simp only [List.map_toArray, List.map_cons, List.map_nil]); first | done | rfl | (simp only [List.length_drop, List.length_take]; rfl)) ?_; (with_reducible refine (impl_isBatch.calls k a0_0 a0_1 a0_2 a0_3 a0_4 a0_5 _ _ l0_6 false _ ?side1 ?side2 A2.out).mono ?_); (case side1 => repeat (first | exact (Kd.C_below HR0_6.out HB.out) | (with_reducible refine Kd.C_alloc ?_ _) | (with_reducible refine Kd.C_drewN ?_ _) | (with_reducible refine Kd.C_drew ?_))); (case side2 => exact HC0_6.out); rintro e w15 ⟨rfl, hb⟩; refine ⟨_, rfl, ?_⟩; have n0_ := qh10 (blk_below (g := gb260) (o := .cells #[.bool a0_0, .int .i64 a0_1, .int .i64 a0_2, .int .i64 a0_3, .int .i64 a0_4, .string a0_5, .slice A0_6 l0_6.length c0_6] 60 (0, 0)) (by (with_reducible repeat (first | apply qa10 | apply qb10 | apply qc10)); exact BK260.out) hb); have n1_ := qh10 (qi10 (by repeat (first | (with_reducible first | exact HB.out | apply qd10 | apply qe10 | apply qf10 | refine qg10 ?_ GE260.out) | exact HB.out)) hb); clear BK260; clear HB; have BK260 := n0_; have HB := n1_; clear n0_ n1_; (try clear hb); (try clear hb2); (try clear hk); (try clear hi)))
    go_ret2
    exact ⟨_, by first | rfl | (simp [errW_none, errW_some] <;> rfl) | (simp [*, errW_none, errW_some] <;> rfl), by first | exact Kd.R_nil _ _ _ _ _ | exact Kd.N_nil _ _ _ _ _ | exact Kd.V_nil _ _ _ _ _ | exact Kd.Q_nil _ _ _ _ _ | exact Kd.S_nil _ _ _ _ _, by repeat (first | (with_reducible first | exact HB.out | apply qd10 | apply qe10 | apply qf10 | refine qg10 ?_ GE260.out) | exact HB.out)⟩

/-! ### laws_eqRequest: function 88 -/
def laws_eqRequest.f (a0_0 : Int) (a0_1 : Int) (a0_2 : Int) (a0_3 : Int) (a0_4 : ByteArray) (a1_0 : Int) (a1_1 : Int) (a1_2 : Int) (a1_3 : Int) (a1_4 : ByteArray) : Option (Bool) := if a0_0 = a1_0 then (if a0_1 = a1_1 then (if a0_2 = a1_2 then (if a0_3 = a1_3 then (if a0_4.toList = a1_4.toList then (some true) else (some false)) else (some false)) else (some false)) else (some false)) else (some false)
set_option maxHeartbeats 8000000 in
set_option maxRecDepth 100000 in
theorem laws_eqRequest.calls (a0_0 : Int) (a0_1 : Int) (a0_2 : Int) (a0_3 : Int) (a0_4 : ByteArray) (a1_0 : Int) (a1_1 : Int) (a1_2 : Int) (a1_3 : Int) (a1_4 : ByteArray) (r : Bool) (w : World) (h : laws_eqRequest.f a0_0 a0_1 a0_2 a0_3 a0_4 a1_0 a1_1 a1_2 a1_3 a1_4 = some r) :
    Calls Try.prog 88 #[.agg #[.int .i64 a0_0, .int .i64 a0_1, .int .i64 a0_2, .int .i64 a0_3, .string a0_4], .agg #[.int .i64 a1_0, .int .i64 a1_1, .int .i64 a1_2, .int .i64 a1_3, .string a1_4]] w fun e w' => e = .returned (.bool r) ∧ Below w.heap.size w w' := by
  have hu44 := Try.underlying44
  have HB := qh10 (Below.refl w.heap.size w)
  have H : (if a0_0 = a1_0 then (if a0_1 = a1_1 then (if a0_2 = a1_2 then (if a0_3 = a1_3 then (if a0_4.toList = a1_4.toList then (some true) else (some false)) else (some false)) else (some false)) else (some false)) else (some false)) = some r := h
  clear h
  by_cases c3 : a0_0 = a1_0
  · rw [if_pos c3] at H
    have c3b0 : (a0_0 == a1_0) = true := beq_iff_eq.mpr c3
    have c3b1 : (a0_0 != a1_0) = false := bne_eq_false_iff_eq.mpr c3
    clear c3
    by_cases c4 : a0_1 = a1_1
    · rw [if_pos c4] at H
      have c4b0 : (a0_1 == a1_1) = true := beq_iff_eq.mpr c4
      have c4b1 : (a0_1 != a1_1) = false := bne_eq_false_iff_eq.mpr c4
      clear c4
      by_cases c5 : a0_2 = a1_2
      · rw [if_pos c5] at H
        have c5b0 : (a0_2 == a1_2) = true := beq_iff_eq.mpr c5
        have c5b1 : (a0_2 != a1_2) = false := bne_eq_false_iff_eq.mpr c5
        clear c5
        by_cases c6 : a0_3 = a1_3
        · rw [if_pos c6] at H
          have c6b0 : (a0_3 == a1_3) = true := beq_iff_eq.mpr c6
          have c6b1 : (a0_3 != a1_3) = false := bne_eq_false_iff_eq.mpr c6
          clear c6
          by_cases c7 : a0_4.toList = a1_4.toList
          · rw [if_pos c7] at H
            have c7b0 : (a0_4.toList == a1_4.toList) = true := beq_iff_eq.mpr c7
            have c7b1 : (a0_4.toList != a1_4.toList) = false := bne_eq_false_iff_eq.mpr c7
            clear c7
            obtain rfl := Option.some.inj H
            go_enter Try.func88, Try.ntmps88
            go_wp2_with (first | ((with_reducible refine gate_dst (N := 2) rfl ?_); refine box_event ?hg (N := 2) ?hd (cs := #[.int .i64 a0_0, .int .i64 a0_1, .int .i64 a0_2, .int .i64 a0_3, .string a0_4]) (t := 44) ?hr ?_; (case hd => rfl); (case hg => rfl); (case hr => first | (go_simp; done) | (go_simp; rfl)); intro gb266 hg w8 hbox hb; have n0_ := qh10 (qi10 (by repeat (first | (with_reducible first | exact HB.out | apply qd10 | apply qe10 | apply qf10) | exact HB.out)) hb); have n1_ := qh10 (hbox); have n2_ := qh10 ((by rw [hg]; exact (qj10 (by repeat (first | (with_reducible first | exact HB.out | apply qd10 | apply qe10 | apply qf10) | exact HB.out))) : w.heap.size ≤ gb266)); have n3_ := qh10 ((by rw [hg]; exact (qj10 (by repeat (first | (with_reducible first | exact HB.out | apply qd10 | apply qe10 | apply qf10) | exact HB.out))) : w.heap.size ≤ gb266)); clear HB; have HB := n0_; have BK266 := n1_; have GW266 := n2_; have GE266 := n3_; clear n0_ n1_ n2_ n3_; clear hb hbox hg) | ((with_reducible refine gate_dst (N := 3) rfl ?_); refine box_event ?hg (N := 3) ?hd (cs := #[.int .i64 a1_0, .int .i64 a1_1, .int .i64 a1_2, .int .i64 a1_3, .string a1_4]) (t := 44) ?hr ?_; (case hd => rfl); (case hg => rfl); (case hr => first | (go_simp; done) | (go_simp; rfl)); intro gb267 hg w9 hbox hb; have n0_ := qh10 (blk_below (g := gb266) (o := .cells #[.int .i64 a0_0, .int .i64 a0_1, .int .i64 a0_2, .int .i64 a0_3, .string a0_4] 44 (0, 0)) (by (with_reducible repeat (first | apply qa10 | apply qb10 | apply qc10)); exact BK266.out) hb); have n1_ := qh10 (qi10 (by repeat (first | (with_reducible first | exact HB.out | apply qd10 | apply qe10 | apply qf10 | refine qg10 ?_ GE266.out) | exact HB.out)) hb); have n2_ := qh10 (hbox); have n3_ := qh10 ((by rw [hg]; exact (qj10 (by repeat (first | (with_reducible first | exact HB.out | apply qd10 | apply qe10 | apply qf10 | refine qg10 ?_ GE266.out) | exact HB.out))) : w.heap.size ≤ gb267)); have n4_ := qh10 ((by rw [hg]; exact (qj10 (by repeat (first | (with_reducible first | exact HB.out | apply qd10 | apply qe10 | apply qf10 | refine qg10 ?_ GE266.out) | exact HB.out))) : w.heap.size ≤ gb267)); have n5_ := qh10 ((by rw [hg]; exact Nat.ne_of_lt (blk_lt (g := gb266) (o := .cells #[.int .i64 a0_0, .int .i64 a0_1, .int .i64 a0_2, .int .i64 a0_3, .string a0_4] 44 (0, 0)) (by (with_reducible repeat (first | apply qa10 | apply qb10 | apply qc10)); exact BK266.out)) : gb266 ≠ gb267)); have n6_ := qh10 ((by rw [hg]; exact Nat.ne_of_gt (blk_lt (g := gb266) (o := .cells #[.int .i64 a0_0, .int .i64 a0_1, .int .i64 a0_2, .int .i64 a0_3, .string a0_4] 44 (0, 0)) (by (with_reducible repeat (first | apply qa10 | apply qb10 | apply qc10)); exact BK266.out)) : gb267 ≠ gb266)); clear BK266; clear HB; have BK266 := n0_; have HB := n1_; have BK267 := n2_; have GW267 := n3_; have GE267 := n4_; have NB266_267 := n5_; have NB267_266 := n6_; clear n0_ n1_ n2_ n3_ n4_ n5_ n6_; clear hb hbox hg; have hnb10 := NB266_267.out; have hnc10 := NB267_266.out; have hcz11_0 : w9.cell? ⟨gb266, 0, none⟩ = some (.int .i64 a0_0) := (blk_cell BK266.out 0).trans rfl; have hcz11_1 : w9.cell? ⟨gb266, 1, none⟩ = some (.int .i64 a0_1) := (blk_cell BK266.out 1).trans rfl; have hcz11_2 : w9.cell? ⟨gb266, 2, none⟩ = some (.int .i64 a0_2) := (blk_cell BK266.out 2).trans rfl; have hcz11_3 : w9.cell? ⟨gb266, 3, none⟩ = some (.int .i64 a0_3) := (blk_cell BK266.out 3).trans rfl; have hcz11_4 : w9.cell? ⟨gb266, 4, none⟩ = some (.string a0_4) := (blk_cell BK266.out 4).trans rfl; have hfz11_0 := blk_frozen BK266.out 0; have hfz11_1 := blk_frozen BK266.out 1; have hfz11_2 := blk_frozen BK266.out 2; have hfz11_3 := blk_frozen BK266.out 3; have hfz11_4 := blk_frozen BK266.out 4; have hcz12_0 : w9.cell? ⟨gb267, 0, none⟩ = some (.int .i64 a1_0) := (blk_cell BK267.out 0).trans rfl; have hcz12_1 : w9.cell? ⟨gb267, 1, none⟩ = some (.int .i64 a1_1) := (blk_cell BK267.out 1).trans rfl; have hcz12_2 : w9.cell? ⟨gb267, 2, none⟩ = some (.int .i64 a1_2) := (blk_cell BK267.out 2).trans rfl; have hcz12_3 : w9.cell? ⟨gb267, 3, none⟩ = some (.int .i64 a1_3) := (blk_cell BK267.out 3).trans rfl; have hcz12_4 : w9.cell? ⟨gb267, 4, none⟩ = some (.string a1_4) := (blk_cell BK267.out 4).trans rfl; have hfz12_0 := blk_frozen BK267.out 0; have hfz12_1 := blk_frozen BK267.out 1; have hfz12_2 := blk_frozen BK267.out 2; have hfz12_3 := blk_frozen BK267.out 3; have hfz12_4 := blk_frozen BK267.out 4))
            go_ret
            exact ⟨by first | rfl | (simp [errW_none, errW_some] <;> rfl) | (simp [*, errW_none, errW_some] <;> rfl), by repeat (first | (with_reducible first | exact HB.out | apply qd10 | apply qe10 | apply qf10 | refine qg10 ?_ GE266.out | refine qg10 ?_ GE267.out) | exact HB.out)⟩
          · rw [if_neg c7] at H
            have c7b0 : (a0_4.toList == a1_4.toList) = false := beq_eq_false_iff_ne.mpr c7
            have c7b1 : (a0_4.toList != a1_4.toList) = true := bne_iff_ne.mpr c7
            obtain rfl := Option.some.inj H
            go_enter Try.func88, Try.ntmps88
            go_wp2_with (first | ((with_reducible refine gate_dst (N := 2) rfl ?_); refine box_event ?hg (N := 2) ?hd (cs := #[.int .i64 a0_0, .int .i64 a0_1, .int .i64 a0_2, .int .i64 a0_3, .string a0_4]) (t := 44) ?hr ?_; (case hd => rfl); (case hg => rfl); (case hr => first | (go_simp; done) | (go_simp; rfl)); intro gb266 hg w13 hbox hb; have n0_ := qh10 (qi10 (by repeat (first | (with_reducible first | exact HB.out | apply qd10 | apply qe10 | apply qf10) | exact HB.out)) hb); have n1_ := qh10 (hbox); have n2_ := qh10 ((by rw [hg]; exact (qj10 (by repeat (first | (with_reducible first | exact HB.out | apply qd10 | apply qe10 | apply qf10) | exact HB.out))) : w.heap.size ≤ gb266)); have n3_ := qh10 ((by rw [hg]; exact (qj10 (by repeat (first | (with_reducible first | exact HB.out | apply qd10 | apply qe10 | apply qf10) | exact HB.out))) : w.heap.size ≤ gb266)); clear HB; have HB := n0_; have BK266 := n1_; have GW266 := n2_; have GE266 := n3_; clear n0_ n1_ n2_ n3_; clear hb hbox hg) | ((with_reducible refine gate_dst (N := 3) rfl ?_); refine box_event ?hg (N := 3) ?hd (cs := #[.int .i64 a1_0, .int .i64 a1_1, .int .i64 a1_2, .int .i64 a1_3, .string a1_4]) (t := 44) ?hr ?_; (case hd => rfl); (case hg => rfl); (case hr => first | (go_simp; done) | (go_simp; rfl)); intro gb267 hg w14 hbox hb; have n0_ := qh10 (blk_below (g := gb266) (o := .cells #[.int .i64 a0_0, .int .i64 a0_1, .int .i64 a0_2, .int .i64 a0_3, .string a0_4] 44 (0, 0)) (by (with_reducible repeat (first | apply qa10 | apply qb10 | apply qc10)); exact BK266.out) hb); have n1_ := qh10 (qi10 (by repeat (first | (with_reducible first | exact HB.out | apply qd10 | apply qe10 | apply qf10 | refine qg10 ?_ GE266.out) | exact HB.out)) hb); have n2_ := qh10 (hbox); have n3_ := qh10 ((by rw [hg]; exact (qj10 (by repeat (first | (with_reducible first | exact HB.out | apply qd10 | apply qe10 | apply qf10 | refine qg10 ?_ GE266.out) | exact HB.out))) : w.heap.size ≤ gb267)); have n4_ := qh10 ((by rw [hg]; exact (qj10 (by repeat (first | (with_reducible first | exact HB.out | apply qd10 | apply qe10 | apply qf10 | refine qg10 ?_ GE266.out) | exact HB.out))) : w.heap.size ≤ gb267)); have n5_ := qh10 ((by rw [hg]; exact Nat.ne_of_lt (blk_lt (g := gb266) (o := .cells #[.int .i64 a0_0, .int .i64 a0_1, .int .i64 a0_2, .int .i64 a0_3, .string a0_4] 44 (0, 0)) (by (with_reducible repeat (first | apply qa10 | apply qb10 | apply qc10)); exact BK266.out)) : gb266 ≠ gb267)); have n6_ := qh10 ((by rw [hg]; exact Nat.ne_of_gt (blk_lt (g := gb266) (o := .cells #[.int .i64 a0_0, .int .i64 a0_1, .int .i64 a0_2, .int .i64 a0_3, .string a0_4] 44 (0, 0)) (by (with_reducible repeat (first | apply qa10 | apply qb10 | apply qc10)); exact BK266.out)) : gb267 ≠ gb266)); clear BK266; clear HB; have BK266 := n0_; have HB := n1_; have BK267 := n2_; have GW267 := n3_; have GE267 := n4_; have NB266_267 := n5_; have NB267_266 := n6_; clear n0_ n1_ n2_ n3_ n4_ n5_ n6_; clear hb hbox hg; have hnb15 := NB266_267.out; have hnc15 := NB267_266.out; have hcz16_0 : w14.cell? ⟨gb266, 0, none⟩ = some (.int .i64 a0_0) := (blk_cell BK266.out 0).trans rfl; have hcz16_1 : w14.cell? ⟨gb266, 1, none⟩ = some (.int .i64 a0_1) := (blk_cell BK266.out 1).trans rfl; have hcz16_2 : w14.cell? ⟨gb266, 2, none⟩ = some (.int .i64 a0_2) := (blk_cell BK266.out 2).trans rfl; have hcz16_3 : w14.cell? ⟨gb266, 3, none⟩ = some (.int .i64 a0_3) := (blk_cell BK266.out 3).trans rfl; have hcz16_4 : w14.cell? ⟨gb266, 4, none⟩ = some (.string a0_4) := (blk_cell BK266.out 4).trans rfl; have hfz16_0 := blk_frozen BK266.out 0; have hfz16_1 := blk_frozen BK266.out 1; have hfz16_2 := blk_frozen BK266.out 2; have hfz16_3 := blk_frozen BK266.out 3; have hfz16_4 := blk_frozen BK266.out 4; have hcz17_0 : w14.cell? ⟨gb267, 0, none⟩ = some (.int .i64 a1_0) := (blk_cell BK267.out 0).trans rfl; have hcz17_1 : w14.cell? ⟨gb267, 1, none⟩ = some (.int .i64 a1_1) := (blk_cell BK267.out 1).trans rfl; have hcz17_2 : w14.cell? ⟨gb267, 2, none⟩ = some (.int .i64 a1_2) := (blk_cell BK267.out 2).trans rfl; have hcz17_3 : w14.cell? ⟨gb267, 3, none⟩ = some (.int .i64 a1_3) := (blk_cell BK267.out 3).trans rfl; have hcz17_4 : w14.cell? ⟨gb267, 4, none⟩ = some (.string a1_4) := (blk_cell BK267.out 4).trans rfl; have hfz17_0 := blk_frozen BK267.out 0; have hfz17_1 := blk_frozen BK267.out 1; have hfz17_2 := blk_frozen BK267.out 2; have hfz17_3 := blk_frozen BK267.out 3; have hfz17_4 := blk_frozen BK267.out 4))
            go_ret
            exact ⟨by first | rfl | (simp [errW_none, errW_some] <;> rfl) | (simp [*, errW_none, errW_some] <;> rfl), by repeat (first | (with_reducible first | exact HB.out | apply qd10 | apply qe10 | apply qf10 | refine qg10 ?_ GE266.out | refine qg10 ?_ GE267.out) | exact HB.out)⟩
        · rw [if_neg c6] at H
          have c6b0 : (a0_3 == a1_3) = false := beq_eq_false_iff_ne.mpr c6
          have c6b1 : (a0_3 != a1_3) = true := bne_iff_ne.mpr c6
          obtain rfl := Option.some.inj H
          go_enter Try.func88, Try.ntmps88
          go_wp2_with (first | ((with_reducible refine gate_dst (N := 2) rfl ?_); refine box_event ?hg (N := 2) ?hd (cs := #[.int .i64 a0_0, .int .i64 a0_1, .int .i64 a0_2, .int .i64 a0_3, .string a0_4]) (t := 44) ?hr ?_; (case hd => rfl); (case hg => rfl); (case hr => first | (go_simp; done) | (go_simp; rfl)); intro gb266 hg w18 hbox hb; have n0_ := qh10 (qi10 (by repeat (first | (with_reducible first | exact HB.out | apply qd10 | apply qe10 | apply qf10) | exact HB.out)) hb); have n1_ := qh10 (hbox); have n2_ := qh10 ((by rw [hg]; exact (qj10 (by repeat (first | (with_reducible first | exact HB.out | apply qd10 | apply qe10 | apply qf10) | exact HB.out))) : w.heap.size ≤ gb266)); have n3_ := qh10 ((by rw [hg]; exact (qj10 (by repeat (first | (with_reducible first | exact HB.out | apply qd10 | apply qe10 | apply qf10) | exact HB.out))) : w.heap.size ≤ gb266)); clear HB; have HB := n0_; have BK266 := n1_; have GW266 := n2_; have GE266 := n3_; clear n0_ n1_ n2_ n3_; clear hb hbox hg) | ((with_reducible refine gate_dst (N := 3) rfl ?_); refine box_event ?hg (N := 3) ?hd (cs := #[.int .i64 a1_0, .int .i64 a1_1, .int .i64 a1_2, .int .i64 a1_3, .string a1_4]) (t := 44) ?hr ?_; (case hd => rfl); (case hg => rfl); (case hr => first | (go_simp; done) | (go_simp; rfl)); intro gb267 hg w19 hbox hb; have n0_ := qh10 (blk_below (g := gb266) (o := .cells #[.int .i64 a0_0, .int .i64 a0_1, .int .i64 a0_2, .int .i64 a0_3, .string a0_4] 44 (0, 0)) (by (with_reducible repeat (first | apply qa10 | apply qb10 | apply qc10)); exact BK266.out) hb); have n1_ := qh10 (qi10 (by repeat (first | (with_reducible first | exact HB.out | apply qd10 | apply qe10 | apply qf10 | refine qg10 ?_ GE266.out) | exact HB.out)) hb); have n2_ := qh10 (hbox); have n3_ := qh10 ((by rw [hg]; exact (qj10 (by repeat (first | (with_reducible first | exact HB.out | apply qd10 | apply qe10 | apply qf10 | refine qg10 ?_ GE266.out) | exact HB.out))) : w.heap.size ≤ gb267)); have n4_ := qh10 ((by rw [hg]; exact (qj10 (by repeat (first | (with_reducible first | exact HB.out | apply qd10 | apply qe10 | apply qf10 | refine qg10 ?_ GE266.out) | exact HB.out))) : w.heap.size ≤ gb267)); have n5_ := qh10 ((by rw [hg]; exact Nat.ne_of_lt (blk_lt (g := gb266) (o := .cells #[.int .i64 a0_0, .int .i64 a0_1, .int .i64 a0_2, .int .i64 a0_3, .string a0_4] 44 (0, 0)) (by (with_reducible repeat (first | apply qa10 | apply qb10 | apply qc10)); exact BK266.out)) : gb266 ≠ gb267)); have n6_ := qh10 ((by rw [hg]; exact Nat.ne_of_gt (blk_lt (g := gb266) (o := .cells #[.int .i64 a0_0, .int .i64 a0_1, .int .i64 a0_2, .int .i64 a0_3, .string a0_4] 44 (0, 0)) (by (with_reducible repeat (first | apply qa10 | apply qb10 | apply qc10)); exact BK266.out)) : gb267 ≠ gb266)); clear BK266; clear HB; have BK266 := n0_; have HB := n1_; have BK267 := n2_; have GW267 := n3_; have GE267 := n4_; have NB266_267 := n5_; have NB267_266 := n6_; clear n0_ n1_ n2_ n3_ n4_ n5_ n6_; clear hb hbox hg; have hnb20 := NB266_267.out; have hnc20 := NB267_266.out; have hcz21_0 : w19.cell? ⟨gb266, 0, none⟩ = some (.int .i64 a0_0) := (blk_cell BK266.out 0).trans rfl; have hcz21_1 : w19.cell? ⟨gb266, 1, none⟩ = some (.int .i64 a0_1) := (blk_cell BK266.out 1).trans rfl; have hcz21_2 : w19.cell? ⟨gb266, 2, none⟩ = some (.int .i64 a0_2) := (blk_cell BK266.out 2).trans rfl; have hcz21_3 : w19.cell? ⟨gb266, 3, none⟩ = some (.int .i64 a0_3) := (blk_cell BK266.out 3).trans rfl; have hcz21_4 : w19.cell? ⟨gb266, 4, none⟩ = some (.string a0_4) := (blk_cell BK266.out 4).trans rfl; have hfz21_0 := blk_frozen BK266.out 0; have hfz21_1 := blk_frozen BK266.out 1; have hfz21_2 := blk_frozen BK266.out 2; have hfz21_3 := blk_frozen BK266.out 3; have hfz21_4 := blk_frozen BK266.out 4; have hcz22_0 : w19.cell? ⟨gb267, 0, none⟩ = some (.int .i64 a1_0) := (blk_cell BK267.out 0).trans rfl; have hcz22_1 : w19.cell? ⟨gb267, 1, none⟩ = some (.int .i64 a1_1) := (blk_cell BK267.out 1).trans rfl; have hcz22_2 : w19.cell? ⟨gb267, 2, none⟩ = some (.int .i64 a1_2) := (blk_cell BK267.out 2).trans rfl; have hcz22_3 : w19.cell? ⟨gb267, 3, none⟩ = some (.int .i64 a1_3) := (blk_cell BK267.out 3).trans rfl; have hcz22_4 : w19.cell? ⟨gb267, 4, none⟩ = some (.string a1_4) := (blk_cell BK267.out 4).trans rfl; have hfz22_0 := blk_frozen BK267.out 0; have hfz22_1 := blk_frozen BK267.out 1; have hfz22_2 := blk_frozen BK267.out 2; have hfz22_3 := blk_frozen BK267.out 3; have hfz22_4 := blk_frozen BK267.out 4))
          go_ret
          exact ⟨by first | rfl | (simp [errW_none, errW_some] <;> rfl) | (simp [*, errW_none, errW_some] <;> rfl), by repeat (first | (with_reducible first | exact HB.out | apply qd10 | apply qe10 | apply qf10 | refine qg10 ?_ GE266.out | refine qg10 ?_ GE267.out) | exact HB.out)⟩
      · rw [if_neg c5] at H
        have c5b0 : (a0_2 == a1_2) = false := beq_eq_false_iff_ne.mpr c5
        have c5b1 : (a0_2 != a1_2) = true := bne_iff_ne.mpr c5
        obtain rfl := Option.some.inj H
        go_enter Try.func88, Try.ntmps88
        go_wp2_with (first | ((with_reducible refine gate_dst (N := 2) rfl ?_); refine box_event ?hg (N := 2) ?hd (cs := #[.int .i64 a0_0, .int .i64 a0_1, .int .i64 a0_2, .int .i64 a0_3, .string a0_4]) (t := 44) ?hr ?_; (case hd => rfl); (case hg => rfl); (case hr => first | (go_simp; done) | (go_simp; rfl)); intro gb266 hg w23 hbox hb; have n0_ := qh10 (qi10 (by repeat (first | (with_reducible first | exact HB.out | apply qd10 | apply qe10 | apply qf10) | exact HB.out)) hb); have n1_ := qh10 (hbox); have n2_ := qh10 ((by rw [hg]; exact (qj10 (by repeat (first | (with_reducible first | exact HB.out | apply qd10 | apply qe10 | apply qf10) | exact HB.out))) : w.heap.size ≤ gb266)); have n3_ := qh10 ((by rw [hg]; exact (qj10 (by repeat (first | (with_reducible first | exact HB.out | apply qd10 | apply qe10 | apply qf10) | exact HB.out))) : w.heap.size ≤ gb266)); clear HB; have HB := n0_; have BK266 := n1_; have GW266 := n2_; have GE266 := n3_; clear n0_ n1_ n2_ n3_; clear hb hbox hg) | ((with_reducible refine gate_dst (N := 3) rfl ?_); refine box_event ?hg (N := 3) ?hd (cs := #[.int .i64 a1_0, .int .i64 a1_1, .int .i64 a1_2, .int .i64 a1_3, .string a1_4]) (t := 44) ?hr ?_; (case hd => rfl); (case hg => rfl); (case hr => first | (go_simp; done) | (go_simp; rfl)); intro gb267 hg w24 hbox hb; have n0_ := qh10 (blk_below (g := gb266) (o := .cells #[.int .i64 a0_0, .int .i64 a0_1, .int .i64 a0_2, .int .i64 a0_3, .string a0_4] 44 (0, 0)) (by (with_reducible repeat (first | apply qa10 | apply qb10 | apply qc10)); exact BK266.out) hb); have n1_ := qh10 (qi10 (by repeat (first | (with_reducible first | exact HB.out | apply qd10 | apply qe10 | apply qf10 | refine qg10 ?_ GE266.out) | exact HB.out)) hb); have n2_ := qh10 (hbox); have n3_ := qh10 ((by rw [hg]; exact (qj10 (by repeat (first | (with_reducible first | exact HB.out | apply qd10 | apply qe10 | apply qf10 | refine qg10 ?_ GE266.out) | exact HB.out))) : w.heap.size ≤ gb267)); have n4_ := qh10 ((by rw [hg]; exact (qj10 (by repeat (first | (with_reducible first | exact HB.out | apply qd10 | apply qe10 | apply qf10 | refine qg10 ?_ GE266.out) | exact HB.out))) : w.heap.size ≤ gb267)); have n5_ := qh10 ((by rw [hg]; exact Nat.ne_of_lt (blk_lt (g := gb266) (o := .cells #[.int .i64 a0_0, .int .i64 a0_1, .int .i64 a0_2, .int .i64 a0_3, .string a0_4] 44 (0, 0)) (by (with_reducible repeat (first | apply qa10 | apply qb10 | apply qc10)); exact BK266.out)) : gb266 ≠ gb267)); have n6_ := qh10 ((by rw [hg]; exact Nat.ne_of_gt (blk_lt (g := gb266) (o := .cells #[.int .i64 a0_0, .int .i64 a0_1, .int .i64 a0_2, .int .i64 a0_3, .string a0_4] 44 (0, 0)) (by (with_reducible repeat (first | apply qa10 | apply qb10 | apply qc10)); exact BK266.out)) : gb267 ≠ gb266)); clear BK266; clear HB; have BK266 := n0_; have HB := n1_; have BK267 := n2_; have GW267 := n3_; have GE267 := n4_; have NB266_267 := n5_; have NB267_266 := n6_; clear n0_ n1_ n2_ n3_ n4_ n5_ n6_; clear hb hbox hg; have hnb25 := NB266_267.out; have hnc25 := NB267_266.out; have hcz26_0 : w24.cell? ⟨gb266, 0, none⟩ = some (.int .i64 a0_0) := (blk_cell BK266.out 0).trans rfl; have hcz26_1 : w24.cell? ⟨gb266, 1, none⟩ = some (.int .i64 a0_1) := (blk_cell BK266.out 1).trans rfl; have hcz26_2 : w24.cell? ⟨gb266, 2, none⟩ = some (.int .i64 a0_2) := (blk_cell BK266.out 2).trans rfl; have hcz26_3 : w24.cell? ⟨gb266, 3, none⟩ = some (.int .i64 a0_3) := (blk_cell BK266.out 3).trans rfl; have hcz26_4 : w24.cell? ⟨gb266, 4, none⟩ = some (.string a0_4) := (blk_cell BK266.out 4).trans rfl; have hfz26_0 := blk_frozen BK266.out 0; have hfz26_1 := blk_frozen BK266.out 1; have hfz26_2 := blk_frozen BK266.out 2; have hfz26_3 := blk_frozen BK266.out 3; have hfz26_4 := blk_frozen BK266.out 4; have hcz27_0 : w24.cell? ⟨gb267, 0, none⟩ = some (.int .i64 a1_0) := (blk_cell BK267.out 0).trans rfl; have hcz27_1 : w24.cell? ⟨gb267, 1, none⟩ = some (.int .i64 a1_1) := (blk_cell BK267.out 1).trans rfl; have hcz27_2 : w24.cell? ⟨gb267, 2, none⟩ = some (.int .i64 a1_2) := (blk_cell BK267.out 2).trans rfl; have hcz27_3 : w24.cell? ⟨gb267, 3, none⟩ = some (.int .i64 a1_3) := (blk_cell BK267.out 3).trans rfl; have hcz27_4 : w24.cell? ⟨gb267, 4, none⟩ = some (.string a1_4) := (blk_cell BK267.out 4).trans rfl; have hfz27_0 := blk_frozen BK267.out 0; have hfz27_1 := blk_frozen BK267.out 1; have hfz27_2 := blk_frozen BK267.out 2; have hfz27_3 := blk_frozen BK267.out 3; have hfz27_4 := blk_frozen BK267.out 4))
        go_ret
        exact ⟨by first | rfl | (simp [errW_none, errW_some] <;> rfl) | (simp [*, errW_none, errW_some] <;> rfl), by repeat (first | (with_reducible first | exact HB.out | apply qd10 | apply qe10 | apply qf10 | refine qg10 ?_ GE266.out | refine qg10 ?_ GE267.out) | exact HB.out)⟩
    · rw [if_neg c4] at H
      have c4b0 : (a0_1 == a1_1) = false := beq_eq_false_iff_ne.mpr c4
      have c4b1 : (a0_1 != a1_1) = true := bne_iff_ne.mpr c4
      obtain rfl := Option.some.inj H
      go_enter Try.func88, Try.ntmps88
      go_wp2_with (first | ((with_reducible refine gate_dst (N := 2) rfl ?_); refine box_event ?hg (N := 2) ?hd (cs := #[.int .i64 a0_0, .int .i64 a0_1, .int .i64 a0_2, .int .i64 a0_3, .string a0_4]) (t := 44) ?hr ?_; (case hd => rfl); (case hg => rfl); (case hr => first | (go_simp; done) | (go_simp; rfl)); intro gb266 hg w28 hbox hb; have n0_ := qh10 (qi10 (by repeat (first | (with_reducible first | exact HB.out | apply qd10 | apply qe10 | apply qf10) | exact HB.out)) hb); have n1_ := qh10 (hbox); have n2_ := qh10 ((by rw [hg]; exact (qj10 (by repeat (first | (with_reducible first | exact HB.out | apply qd10 | apply qe10 | apply qf10) | exact HB.out))) : w.heap.size ≤ gb266)); have n3_ := qh10 ((by rw [hg]; exact (qj10 (by repeat (first | (with_reducible first | exact HB.out | apply qd10 | apply qe10 | apply qf10) | exact HB.out))) : w.heap.size ≤ gb266)); clear HB; have HB := n0_; have BK266 := n1_; have GW266 := n2_; have GE266 := n3_; clear n0_ n1_ n2_ n3_; clear hb hbox hg) | ((with_reducible refine gate_dst (N := 3) rfl ?_); refine box_event ?hg (N := 3) ?hd (cs := #[.int .i64 a1_0, .int .i64 a1_1, .int .i64 a1_2, .int .i64 a1_3, .string a1_4]) (t := 44) ?hr ?_; (case hd => rfl); (case hg => rfl); (case hr => first | (go_simp; done) | (go_simp; rfl)); intro gb267 hg w29 hbox hb; have n0_ := qh10 (blk_below (g := gb266) (o := .cells #[.int .i64 a0_0, .int .i64 a0_1, .int .i64 a0_2, .int .i64 a0_3, .string a0_4] 44 (0, 0)) (by (with_reducible repeat (first | apply qa10 | apply qb10 | apply qc10)); exact BK266.out) hb); have n1_ := qh10 (qi10 (by repeat (first | (with_reducible first | exact HB.out | apply qd10 | apply qe10 | apply qf10 | refine qg10 ?_ GE266.out) | exact HB.out)) hb); have n2_ := qh10 (hbox); have n3_ := qh10 ((by rw [hg]; exact (qj10 (by repeat (first | (with_reducible first | exact HB.out | apply qd10 | apply qe10 | apply qf10 | refine qg10 ?_ GE266.out) | exact HB.out))) : w.heap.size ≤ gb267)); have n4_ := qh10 ((by rw [hg]; exact (qj10 (by repeat (first | (with_reducible first | exact HB.out | apply qd10 | apply qe10 | apply qf10 | refine qg10 ?_ GE266.out) | exact HB.out))) : w.heap.size ≤ gb267)); have n5_ := qh10 ((by rw [hg]; exact Nat.ne_of_lt (blk_lt (g := gb266) (o := .cells #[.int .i64 a0_0, .int .i64 a0_1, .int .i64 a0_2, .int .i64 a0_3, .string a0_4] 44 (0, 0)) (by (with_reducible repeat (first | apply qa10 | apply qb10 | apply qc10)); exact BK266.out)) : gb266 ≠ gb267)); have n6_ := qh10 ((by rw [hg]; exact Nat.ne_of_gt (blk_lt (g := gb266) (o := .cells #[.int .i64 a0_0, .int .i64 a0_1, .int .i64 a0_2, .int .i64 a0_3, .string a0_4] 44 (0, 0)) (by (with_reducible repeat (first | apply qa10 | apply qb10 | apply qc10)); exact BK266.out)) : gb267 ≠ gb266)); clear BK266; clear HB; have BK266 := n0_; have HB := n1_; have BK267 := n2_; have GW267 := n3_; have GE267 := n4_; have NB266_267 := n5_; have NB267_266 := n6_; clear n0_ n1_ n2_ n3_ n4_ n5_ n6_; clear hb hbox hg; have hnb30 := NB266_267.out; have hnc30 := NB267_266.out; have hcz31_0 : w29.cell? ⟨gb266, 0, none⟩ = some (.int .i64 a0_0) := (blk_cell BK266.out 0).trans rfl; have hcz31_1 : w29.cell? ⟨gb266, 1, none⟩ = some (.int .i64 a0_1) := (blk_cell BK266.out 1).trans rfl; have hcz31_2 : w29.cell? ⟨gb266, 2, none⟩ = some (.int .i64 a0_2) := (blk_cell BK266.out 2).trans rfl; have hcz31_3 : w29.cell? ⟨gb266, 3, none⟩ = some (.int .i64 a0_3) := (blk_cell BK266.out 3).trans rfl; have hcz31_4 : w29.cell? ⟨gb266, 4, none⟩ = some (.string a0_4) := (blk_cell BK266.out 4).trans rfl; have hfz31_0 := blk_frozen BK266.out 0; have hfz31_1 := blk_frozen BK266.out 1; have hfz31_2 := blk_frozen BK266.out 2; have hfz31_3 := blk_frozen BK266.out 3; have hfz31_4 := blk_frozen BK266.out 4; have hcz32_0 : w29.cell? ⟨gb267, 0, none⟩ = some (.int .i64 a1_0) := (blk_cell BK267.out 0).trans rfl; have hcz32_1 : w29.cell? ⟨gb267, 1, none⟩ = some (.int .i64 a1_1) := (blk_cell BK267.out 1).trans rfl; have hcz32_2 : w29.cell? ⟨gb267, 2, none⟩ = some (.int .i64 a1_2) := (blk_cell BK267.out 2).trans rfl; have hcz32_3 : w29.cell? ⟨gb267, 3, none⟩ = some (.int .i64 a1_3) := (blk_cell BK267.out 3).trans rfl; have hcz32_4 : w29.cell? ⟨gb267, 4, none⟩ = some (.string a1_4) := (blk_cell BK267.out 4).trans rfl; have hfz32_0 := blk_frozen BK267.out 0; have hfz32_1 := blk_frozen BK267.out 1; have hfz32_2 := blk_frozen BK267.out 2; have hfz32_3 := blk_frozen BK267.out 3; have hfz32_4 := blk_frozen BK267.out 4))
      go_ret
      exact ⟨by first | rfl | (simp [errW_none, errW_some] <;> rfl) | (simp [*, errW_none, errW_some] <;> rfl), by repeat (first | (with_reducible first | exact HB.out | apply qd10 | apply qe10 | apply qf10 | refine qg10 ?_ GE266.out | refine qg10 ?_ GE267.out) | exact HB.out)⟩
  · rw [if_neg c3] at H
    have c3b0 : (a0_0 == a1_0) = false := beq_eq_false_iff_ne.mpr c3
    have c3b1 : (a0_0 != a1_0) = true := bne_iff_ne.mpr c3
    obtain rfl := Option.some.inj H
    go_enter Try.func88, Try.ntmps88
    go_wp2_with (first | ((with_reducible refine gate_dst (N := 2) rfl ?_); refine box_event ?hg (N := 2) ?hd (cs := #[.int .i64 a0_0, .int .i64 a0_1, .int .i64 a0_2, .int .i64 a0_3, .string a0_4]) (t := 44) ?hr ?_; (case hd => rfl); (case hg => rfl); (case hr => first | (go_simp; done) | (go_simp; rfl)); intro gb266 hg w33 hbox hb; have n0_ := qh10 (qi10 (by repeat (first | (with_reducible first | exact HB.out | apply qd10 | apply qe10 | apply qf10) | exact HB.out)) hb); have n1_ := qh10 (hbox); have n2_ := qh10 ((by rw [hg]; exact (qj10 (by repeat (first | (with_reducible first | exact HB.out | apply qd10 | apply qe10 | apply qf10) | exact HB.out))) : w.heap.size ≤ gb266)); have n3_ := qh10 ((by rw [hg]; exact (qj10 (by repeat (first | (with_reducible first | exact HB.out | apply qd10 | apply qe10 | apply qf10) | exact HB.out))) : w.heap.size ≤ gb266)); clear HB; have HB := n0_; have BK266 := n1_; have GW266 := n2_; have GE266 := n3_; clear n0_ n1_ n2_ n3_; clear hb hbox hg) | ((with_reducible refine gate_dst (N := 3) rfl ?_); refine box_event ?hg (N := 3) ?hd (cs := #[.int .i64 a1_0, .int .i64 a1_1, .int .i64 a1_2, .int .i64 a1_3, .string a1_4]) (t := 44) ?hr ?_; (case hd => rfl); (case hg => rfl); (case hr => first | (go_simp; done) | (go_simp; rfl)); intro gb267 hg w34 hbox hb; have n0_ := qh10 (blk_below (g := gb266) (o := .cells #[.int .i64 a0_0, .int .i64 a0_1, .int .i64 a0_2, .int .i64 a0_3, .string a0_4] 44 (0, 0)) (by (with_reducible repeat (first | apply qa10 | apply qb10 | apply qc10)); exact BK266.out) hb); have n1_ := qh10 (qi10 (by repeat (first | (with_reducible first | exact HB.out | apply qd10 | apply qe10 | apply qf10 | refine qg10 ?_ GE266.out) | exact HB.out)) hb); have n2_ := qh10 (hbox); have n3_ := qh10 ((by rw [hg]; exact (qj10 (by repeat (first | (with_reducible first | exact HB.out | apply qd10 | apply qe10 | apply qf10 | refine qg10 ?_ GE266.out) | exact HB.out))) : w.heap.size ≤ gb267)); have n4_ := qh10 ((by rw [hg]; exact (qj10 (by repeat (first | (with_reducible first | exact HB.out | apply qd10 | apply qe10 | apply qf10 | refine qg10 ?_ GE266.out) | exact HB.out))) : w.heap.size ≤ gb267)); have n5_ := qh10 ((by rw [hg]; exact Nat.ne_of_lt (blk_lt (g := gb266) (o := .cells #[.int .i64 a0_0, .int .i64 a0_1, .int .i64 a0_2, .int .i64 a0_3, .string a0_4] 44 (0, 0)) (by (with_reducible repeat (first | apply qa10 | apply qb10 | apply qc10)); exact BK266.out)) : gb266 ≠ gb267)); have n6_ := qh10 ((by rw [hg]; exact Nat.ne_of_gt (blk_lt (g := gb266) (o := .cells #[.int .i64 a0_0, .int .i64 a0_1, .int .i64 a0_2, .int .i64 a0_3, .string a0_4] 44 (0, 0)) (by (with_reducible repeat (first | apply qa10 | apply qb10 | apply qc10)); exact BK266.out)) : gb267 ≠ gb266)); clear BK266; clear HB; have BK266 := n0_; have HB := n1_; have BK267 := n2_; have GW267 := n3_; have GE267 := n4_; have NB266_267 := n5_; have NB267_266 := n6_; clear n0_ n1_ n2_ n3_ n4_ n5_ n6_; clear hb hbox hg; have hnb35 := NB266_267.out; have hnc35 := NB267_266.out; have hcz36_0 : w34.cell? ⟨gb266, 0, none⟩ = some (.int .i64 a0_0) := (blk_cell BK266.out 0).trans rfl; have hcz36_1 : w34.cell? ⟨gb266, 1, none⟩ = some (.int .i64 a0_1) := (blk_cell BK266.out 1).trans rfl; have hcz36_2 : w34.cell? ⟨gb266, 2, none⟩ = some (.int .i64 a0_2) := (blk_cell BK266.out 2).trans rfl; have hcz36_3 : w34.cell? ⟨gb266, 3, none⟩ = some (.int .i64 a0_3) := (blk_cell BK266.out 3).trans rfl; have hcz36_4 : w34.cell? ⟨gb266, 4, none⟩ = some (.string a0_4) := (blk_cell BK266.out 4).trans rfl; have hfz36_0 := blk_frozen BK266.out 0; have hfz36_1 := blk_frozen BK266.out 1; have hfz36_2 := blk_frozen BK266.out 2; have hfz36_3 := blk_frozen BK266.out 3; have hfz36_4 := blk_frozen BK266.out 4; have hcz37_0 : w34.cell? ⟨gb267, 0, none⟩ = some (.int .i64 a1_0) := (blk_cell BK267.out 0).trans rfl; have hcz37_1 : w34.cell? ⟨gb267, 1, none⟩ = some (.int .i64 a1_1) := (blk_cell BK267.out 1).trans rfl; have hcz37_2 : w34.cell? ⟨gb267, 2, none⟩ = some (.int .i64 a1_2) := (blk_cell BK267.out 2).trans rfl; have hcz37_3 : w34.cell? ⟨gb267, 3, none⟩ = some (.int .i64 a1_3) := (blk_cell BK267.out 3).trans rfl; have hcz37_4 : w34.cell? ⟨gb267, 4, none⟩ = some (.string a1_4) := (blk_cell BK267.out 4).trans rfl; have hfz37_0 := blk_frozen BK267.out 0; have hfz37_1 := blk_frozen BK267.out 1; have hfz37_2 := blk_frozen BK267.out 2; have hfz37_3 := blk_frozen BK267.out 3; have hfz37_4 := blk_frozen BK267.out 4))
    go_ret
    exact ⟨by first | rfl | (simp [errW_none, errW_some] <;> rfl) | (simp [*, errW_none, errW_some] <;> rfl), by repeat (first | (with_reducible first | exact HB.out | apply qd10 | apply qe10 | apply qf10 | refine qg10 ?_ GE266.out | refine qg10 ?_ GE267.out) | exact HB.out)⟩

/-! ### laws_eqReading: function 118 -/
def laws_eqReading.f (a0_0 : Int) (a0_1 : Int) (a0_2 : ByteArray) (a1_0 : Int) (a1_1 : Int) (a1_2 : ByteArray) : Option (Bool) := if a0_0 = a1_0 then (if a0_1 = a1_1 then (if a0_2.toList = a1_2.toList then (some true) else (some false)) else (some false)) else (some false)
set_option maxHeartbeats 8000000 in
set_option maxRecDepth 100000 in
theorem laws_eqReading.calls (a0_0 : Int) (a0_1 : Int) (a0_2 : ByteArray) (a1_0 : Int) (a1_1 : Int) (a1_2 : ByteArray) (r : Bool) (w : World) (h : laws_eqReading.f a0_0 a0_1 a0_2 a1_0 a1_1 a1_2 = some r) :
    Calls Try.prog 118 #[.agg #[.int .i64 a0_0, .int .i64 a0_1, .string a0_2], .agg #[.int .i64 a1_0, .int .i64 a1_1, .string a1_2]] w fun e w' => e = .returned (.bool r) ∧ Below w.heap.size w w' := by
  have hu137 := Try.underlying137
  have HB := qh10 (Below.refl w.heap.size w)
  have H : (if a0_0 = a1_0 then (if a0_1 = a1_1 then (if a0_2.toList = a1_2.toList then (some true) else (some false)) else (some false)) else (some false)) = some r := h
  clear h
  by_cases c3 : a0_0 = a1_0
  · rw [if_pos c3] at H
    have c3b0 : (a0_0 == a1_0) = true := beq_iff_eq.mpr c3
    have c3b1 : (a0_0 != a1_0) = false := bne_eq_false_iff_eq.mpr c3
    clear c3
    by_cases c4 : a0_1 = a1_1
    · rw [if_pos c4] at H
      have c4b0 : (a0_1 == a1_1) = true := beq_iff_eq.mpr c4
      have c4b1 : (a0_1 != a1_1) = false := bne_eq_false_iff_eq.mpr c4
      clear c4
      by_cases c5 : a0_2.toList = a1_2.toList
      · rw [if_pos c5] at H
        have c5b0 : (a0_2.toList == a1_2.toList) = true := beq_iff_eq.mpr c5
        have c5b1 : (a0_2.toList != a1_2.toList) = false := bne_eq_false_iff_eq.mpr c5
        clear c5
        obtain rfl := Option.some.inj H
        go_enter Try.func118, Try.ntmps118
        go_wp2_with (first | ((with_reducible refine gate_dst (N := 2) rfl ?_); refine box_event ?hg (N := 2) ?hd (cs := #[.int .i64 a0_0, .int .i64 a0_1, .string a0_2]) (t := 137) ?hr ?_; (case hd => rfl); (case hg => rfl); (case hr => first | (go_simp; done) | (go_simp; rfl)); intro gb268 hg w6 hbox hb; have n0_ := qh10 (qi10 (by repeat (first | (with_reducible first | exact HB.out | apply qd10 | apply qe10 | apply qf10) | exact HB.out)) hb); have n1_ := qh10 (hbox); have n2_ := qh10 ((by rw [hg]; exact (qj10 (by repeat (first | (with_reducible first | exact HB.out | apply qd10 | apply qe10 | apply qf10) | exact HB.out))) : w.heap.size ≤ gb268)); have n3_ := qh10 ((by rw [hg]; exact (qj10 (by repeat (first | (with_reducible first | exact HB.out | apply qd10 | apply qe10 | apply qf10) | exact HB.out))) : w.heap.size ≤ gb268)); clear HB; have HB := n0_; have BK268 := n1_; have GW268 := n2_; have GE268 := n3_; clear n0_ n1_ n2_ n3_; clear hb hbox hg) | ((with_reducible refine gate_dst (N := 3) rfl ?_); refine box_event ?hg (N := 3) ?hd (cs := #[.int .i64 a1_0, .int .i64 a1_1, .string a1_2]) (t := 137) ?hr ?_; (case hd => rfl); (case hg => rfl); (case hr => first | (go_simp; done) | (go_simp; rfl)); intro gb269 hg w7 hbox hb; have n0_ := qh10 (blk_below (g := gb268) (o := .cells #[.int .i64 a0_0, .int .i64 a0_1, .string a0_2] 137 (0, 0)) (by (with_reducible repeat (first | apply qa10 | apply qb10 | apply qc10)); exact BK268.out) hb); have n1_ := qh10 (qi10 (by repeat (first | (with_reducible first | exact HB.out | apply qd10 | apply qe10 | apply qf10 | refine qg10 ?_ GE268.out) | exact HB.out)) hb); have n2_ := qh10 (hbox); have n3_ := qh10 ((by rw [hg]; exact (qj10 (by repeat (first | (with_reducible first | exact HB.out | apply qd10 | apply qe10 | apply qf10 | refine qg10 ?_ GE268.out) | exact HB.out))) : w.heap.size ≤ gb269)); have n4_ := qh10 ((by rw [hg]; exact (qj10 (by repeat (first | (with_reducible first | exact HB.out | apply qd10 | apply qe10 | apply qf10 | refine qg10 ?_ GE268.out) | exact HB.out))) : w.heap.size ≤ gb269)); have n5_ := qh10 ((by rw [hg]; exact Nat.ne_of_lt (blk_lt (g := gb268) (o := .cells #[.int .i64 a0_0, .int .i64 a0_1, .string a0_2] 137 (0, 0)) (by (with_reducible repeat (first | apply qa10 | apply qb10 | apply qc10)); exact BK268.out)) : gb268 ≠ gb269)); have n6_ := qh10 ((by rw [hg]; exact Nat.ne_of_gt (blk_lt (g := gb268) (o := .cells #[.int .i64 a0_0, .int .i64 a0_1, .string a0_2] 137 (0, 0)) (by (with_reducible repeat (first | apply qa10 | apply qb10 | apply qc10)); exact BK268.out)) : gb269 ≠ gb268)); clear BK268; clear HB; have BK268 := n0_; have HB := n1_; have BK269 := n2_; have GW269 := n3_; have GE269 := n4_; have NB268_269 := n5_; have NB269_268 := n6_; clear n0_ n1_ n2_ n3_ n4_ n5_ n6_; clear hb hbox hg; have hnb8 := NB268_269.out; have hnc8 := NB269_268.out; have hcz9_0 : w7.cell? ⟨gb268, 0, none⟩ = some (.int .i64 a0_0) := (blk_cell BK268.out 0).trans rfl; have hcz9_1 : w7.cell? ⟨gb268, 1, none⟩ = some (.int .i64 a0_1) := (blk_cell BK268.out 1).trans rfl; have hcz9_2 : w7.cell? ⟨gb268, 2, none⟩ = some (.string a0_2) := (blk_cell BK268.out 2).trans rfl; have hfz9_0 := blk_frozen BK268.out 0; have hfz9_1 := blk_frozen BK268.out 1; have hfz9_2 := blk_frozen BK268.out 2; have hcz10_0 : w7.cell? ⟨gb269, 0, none⟩ = some (.int .i64 a1_0) := (blk_cell BK269.out 0).trans rfl; have hcz10_1 : w7.cell? ⟨gb269, 1, none⟩ = some (.int .i64 a1_1) := (blk_cell BK269.out 1).trans rfl; have hcz10_2 : w7.cell? ⟨gb269, 2, none⟩ = some (.string a1_2) := (blk_cell BK269.out 2).trans rfl; have hfz10_0 := blk_frozen BK269.out 0; have hfz10_1 := blk_frozen BK269.out 1; have hfz10_2 := blk_frozen BK269.out 2))
        go_ret
        exact ⟨by first | rfl | (simp [errW_none, errW_some] <;> rfl) | (simp [*, errW_none, errW_some] <;> rfl), by repeat (first | (with_reducible first | exact HB.out | apply qd10 | apply qe10 | apply qf10 | refine qg10 ?_ GE268.out | refine qg10 ?_ GE269.out) | exact HB.out)⟩
      · rw [if_neg c5] at H
        have c5b0 : (a0_2.toList == a1_2.toList) = false := beq_eq_false_iff_ne.mpr c5
        have c5b1 : (a0_2.toList != a1_2.toList) = true := bne_iff_ne.mpr c5
        obtain rfl := Option.some.inj H
        go_enter Try.func118, Try.ntmps118
        go_wp2_with (first | ((with_reducible refine gate_dst (N := 2) rfl ?_); refine box_event ?hg (N := 2) ?hd (cs := #[.int .i64 a0_0, .int .i64 a0_1, .string a0_2]) (t := 137) ?hr ?_; (case hd => rfl); (case hg => rfl); (case hr => first | (go_simp; done) | (go_simp; rfl)); intro gb268 hg w11 hbox hb; have n0_ := qh10 (qi10 (by repeat (first | (with_reducible first | exact HB.out | apply qd10 | apply qe10 | apply qf10) | exact HB.out)) hb); have n1_ := qh10 (hbox); have n2_ := qh10 ((by rw [hg]; exact (qj10 (by repeat (first | (with_reducible first | exact HB.out | apply qd10 | apply qe10 | apply qf10) | exact HB.out))) : w.heap.size ≤ gb268)); have n3_ := qh10 ((by rw [hg]; exact (qj10 (by repeat (first | (with_reducible first | exact HB.out | apply qd10 | apply qe10 | apply qf10) | exact HB.out))) : w.heap.size ≤ gb268)); clear HB; have HB := n0_; have BK268 := n1_; have GW268 := n2_; have GE268 := n3_; clear n0_ n1_ n2_ n3_; clear hb hbox hg) | ((with_reducible refine gate_dst (N := 3) rfl ?_); refine box_event ?hg (N := 3) ?hd (cs := #[.int .i64 a1_0, .int .i64 a1_1, .string a1_2]) (t := 137) ?hr ?_; (case hd => rfl); (case hg => rfl); (case hr => first | (go_simp; done) | (go_simp; rfl)); intro gb269 hg w12 hbox hb; have n0_ := qh10 (blk_below (g := gb268) (o := .cells #[.int .i64 a0_0, .int .i64 a0_1, .string a0_2] 137 (0, 0)) (by (with_reducible repeat (first | apply qa10 | apply qb10 | apply qc10)); exact BK268.out) hb); have n1_ := qh10 (qi10 (by repeat (first | (with_reducible first | exact HB.out | apply qd10 | apply qe10 | apply qf10 | refine qg10 ?_ GE268.out) | exact HB.out)) hb); have n2_ := qh10 (hbox); have n3_ := qh10 ((by rw [hg]; exact (qj10 (by repeat (first | (with_reducible first | exact HB.out | apply qd10 | apply qe10 | apply qf10 | refine qg10 ?_ GE268.out) | exact HB.out))) : w.heap.size ≤ gb269)); have n4_ := qh10 ((by rw [hg]; exact (qj10 (by repeat (first | (with_reducible first | exact HB.out | apply qd10 | apply qe10 | apply qf10 | refine qg10 ?_ GE268.out) | exact HB.out))) : w.heap.size ≤ gb269)); have n5_ := qh10 ((by rw [hg]; exact Nat.ne_of_lt (blk_lt (g := gb268) (o := .cells #[.int .i64 a0_0, .int .i64 a0_1, .string a0_2] 137 (0, 0)) (by (with_reducible repeat (first | apply qa10 | apply qb10 | apply qc10)); exact BK268.out)) : gb268 ≠ gb269)); have n6_ := qh10 ((by rw [hg]; exact Nat.ne_of_gt (blk_lt (g := gb268) (o := .cells #[.int .i64 a0_0, .int .i64 a0_1, .string a0_2] 137 (0, 0)) (by (with_reducible repeat (first | apply qa10 | apply qb10 | apply qc10)); exact BK268.out)) : gb269 ≠ gb268)); clear BK268; clear HB; have BK268 := n0_; have HB := n1_; have BK269 := n2_; have GW269 := n3_; have GE269 := n4_; have NB268_269 := n5_; have NB269_268 := n6_; clear n0_ n1_ n2_ n3_ n4_ n5_ n6_; clear hb hbox hg; have hnb13 := NB268_269.out; have hnc13 := NB269_268.out; have hcz14_0 : w12.cell? ⟨gb268, 0, none⟩ = some (.int .i64 a0_0) := (blk_cell BK268.out 0).trans rfl; have hcz14_1 : w12.cell? ⟨gb268, 1, none⟩ = some (.int .i64 a0_1) := (blk_cell BK268.out 1).trans rfl; have hcz14_2 : w12.cell? ⟨gb268, 2, none⟩ = some (.string a0_2) := (blk_cell BK268.out 2).trans rfl; have hfz14_0 := blk_frozen BK268.out 0; have hfz14_1 := blk_frozen BK268.out 1; have hfz14_2 := blk_frozen BK268.out 2; have hcz15_0 : w12.cell? ⟨gb269, 0, none⟩ = some (.int .i64 a1_0) := (blk_cell BK269.out 0).trans rfl; have hcz15_1 : w12.cell? ⟨gb269, 1, none⟩ = some (.int .i64 a1_1) := (blk_cell BK269.out 1).trans rfl; have hcz15_2 : w12.cell? ⟨gb269, 2, none⟩ = some (.string a1_2) := (blk_cell BK269.out 2).trans rfl; have hfz15_0 := blk_frozen BK269.out 0; have hfz15_1 := blk_frozen BK269.out 1; have hfz15_2 := blk_frozen BK269.out 2))
        go_ret
        exact ⟨by first | rfl | (simp [errW_none, errW_some] <;> rfl) | (simp [*, errW_none, errW_some] <;> rfl), by repeat (first | (with_reducible first | exact HB.out | apply qd10 | apply qe10 | apply qf10 | refine qg10 ?_ GE268.out | refine qg10 ?_ GE269.out) | exact HB.out)⟩
    · rw [if_neg c4] at H
      have c4b0 : (a0_1 == a1_1) = false := beq_eq_false_iff_ne.mpr c4
      have c4b1 : (a0_1 != a1_1) = true := bne_iff_ne.mpr c4
      obtain rfl := Option.some.inj H
      go_enter Try.func118, Try.ntmps118
      go_wp2_with (first | ((with_reducible refine gate_dst (N := 2) rfl ?_); refine box_event ?hg (N := 2) ?hd (cs := #[.int .i64 a0_0, .int .i64 a0_1, .string a0_2]) (t := 137) ?hr ?_; (case hd => rfl); (case hg => rfl); (case hr => first | (go_simp; done) | (go_simp; rfl)); intro gb268 hg w16 hbox hb; have n0_ := qh10 (qi10 (by repeat (first | (with_reducible first | exact HB.out | apply qd10 | apply qe10 | apply qf10) | exact HB.out)) hb); have n1_ := qh10 (hbox); have n2_ := qh10 ((by rw [hg]; exact (qj10 (by repeat (first | (with_reducible first | exact HB.out | apply qd10 | apply qe10 | apply qf10) | exact HB.out))) : w.heap.size ≤ gb268)); have n3_ := qh10 ((by rw [hg]; exact (qj10 (by repeat (first | (with_reducible first | exact HB.out | apply qd10 | apply qe10 | apply qf10) | exact HB.out))) : w.heap.size ≤ gb268)); clear HB; have HB := n0_; have BK268 := n1_; have GW268 := n2_; have GE268 := n3_; clear n0_ n1_ n2_ n3_; clear hb hbox hg) | ((with_reducible refine gate_dst (N := 3) rfl ?_); refine box_event ?hg (N := 3) ?hd (cs := #[.int .i64 a1_0, .int .i64 a1_1, .string a1_2]) (t := 137) ?hr ?_; (case hd => rfl); (case hg => rfl); (case hr => first | (go_simp; done) | (go_simp; rfl)); intro gb269 hg w17 hbox hb; have n0_ := qh10 (blk_below (g := gb268) (o := .cells #[.int .i64 a0_0, .int .i64 a0_1, .string a0_2] 137 (0, 0)) (by (with_reducible repeat (first | apply qa10 | apply qb10 | apply qc10)); exact BK268.out) hb); have n1_ := qh10 (qi10 (by repeat (first | (with_reducible first | exact HB.out | apply qd10 | apply qe10 | apply qf10 | refine qg10 ?_ GE268.out) | exact HB.out)) hb); have n2_ := qh10 (hbox); have n3_ := qh10 ((by rw [hg]; exact (qj10 (by repeat (first | (with_reducible first | exact HB.out | apply qd10 | apply qe10 | apply qf10 | refine qg10 ?_ GE268.out) | exact HB.out))) : w.heap.size ≤ gb269)); have n4_ := qh10 ((by rw [hg]; exact (qj10 (by repeat (first | (with_reducible first | exact HB.out | apply qd10 | apply qe10 | apply qf10 | refine qg10 ?_ GE268.out) | exact HB.out))) : w.heap.size ≤ gb269)); have n5_ := qh10 ((by rw [hg]; exact Nat.ne_of_lt (blk_lt (g := gb268) (o := .cells #[.int .i64 a0_0, .int .i64 a0_1, .string a0_2] 137 (0, 0)) (by (with_reducible repeat (first | apply qa10 | apply qb10 | apply qc10)); exact BK268.out)) : gb268 ≠ gb269)); have n6_ := qh10 ((by rw [hg]; exact Nat.ne_of_gt (blk_lt (g := gb268) (o := .cells #[.int .i64 a0_0, .int .i64 a0_1, .string a0_2] 137 (0, 0)) (by (with_reducible repeat (first | apply qa10 | apply qb10 | apply qc10)); exact BK268.out)) : gb269 ≠ gb268)); clear BK268; clear HB; have BK268 := n0_; have HB := n1_; have BK269 := n2_; have GW269 := n3_; have GE269 := n4_; have NB268_269 := n5_; have NB269_268 := n6_; clear n0_ n1_ n2_ n3_ n4_ n5_ n6_; clear hb hbox hg; have hnb18 := NB268_269.out; have hnc18 := NB269_268.out; have hcz19_0 : w17.cell? ⟨gb268, 0, none⟩ = some (.int .i64 a0_0) := (blk_cell BK268.out 0).trans rfl; have hcz19_1 : w17.cell? ⟨gb268, 1, none⟩ = some (.int .i64 a0_1) := (blk_cell BK268.out 1).trans rfl; have hcz19_2 : w17.cell? ⟨gb268, 2, none⟩ = some (.string a0_2) := (blk_cell BK268.out 2).trans rfl; have hfz19_0 := blk_frozen BK268.out 0; have hfz19_1 := blk_frozen BK268.out 1; have hfz19_2 := blk_frozen BK268.out 2; have hcz20_0 : w17.cell? ⟨gb269, 0, none⟩ = some (.int .i64 a1_0) := (blk_cell BK269.out 0).trans rfl; have hcz20_1 : w17.cell? ⟨gb269, 1, none⟩ = some (.int .i64 a1_1) := (blk_cell BK269.out 1).trans rfl; have hcz20_2 : w17.cell? ⟨gb269, 2, none⟩ = some (.string a1_2) := (blk_cell BK269.out 2).trans rfl; have hfz20_0 := blk_frozen BK269.out 0; have hfz20_1 := blk_frozen BK269.out 1; have hfz20_2 := blk_frozen BK269.out 2))
      go_ret
      exact ⟨by first | rfl | (simp [errW_none, errW_some] <;> rfl) | (simp [*, errW_none, errW_some] <;> rfl), by repeat (first | (with_reducible first | exact HB.out | apply qd10 | apply qe10 | apply qf10 | refine qg10 ?_ GE268.out | refine qg10 ?_ GE269.out) | exact HB.out)⟩
  · rw [if_neg c3] at H
    have c3b0 : (a0_0 == a1_0) = false := beq_eq_false_iff_ne.mpr c3
    have c3b1 : (a0_0 != a1_0) = true := bne_iff_ne.mpr c3
    obtain rfl := Option.some.inj H
    go_enter Try.func118, Try.ntmps118
    go_wp2_with (first | ((with_reducible refine gate_dst (N := 2) rfl ?_); refine box_event ?hg (N := 2) ?hd (cs := #[.int .i64 a0_0, .int .i64 a0_1, .string a0_2]) (t := 137) ?hr ?_; (case hd => rfl); (case hg => rfl); (case hr => first | (go_simp; done) | (go_simp; rfl)); intro gb268 hg w21 hbox hb; have n0_ := qh10 (qi10 (by repeat (first | (with_reducible first | exact HB.out | apply qd10 | apply qe10 | apply qf10) | exact HB.out)) hb); have n1_ := qh10 (hbox); have n2_ := qh10 ((by rw [hg]; exact (qj10 (by repeat (first | (with_reducible first | exact HB.out | apply qd10 | apply qe10 | apply qf10) | exact HB.out))) : w.heap.size ≤ gb268)); have n3_ := qh10 ((by rw [hg]; exact (qj10 (by repeat (first | (with_reducible first | exact HB.out | apply qd10 | apply qe10 | apply qf10) | exact HB.out))) : w.heap.size ≤ gb268)); clear HB; have HB := n0_; have BK268 := n1_; have GW268 := n2_; have GE268 := n3_; clear n0_ n1_ n2_ n3_; clear hb hbox hg) | ((with_reducible refine gate_dst (N := 3) rfl ?_); refine box_event ?hg (N := 3) ?hd (cs := #[.int .i64 a1_0, .int .i64 a1_1, .string a1_2]) (t := 137) ?hr ?_; (case hd => rfl); (case hg => rfl); (case hr => first | (go_simp; done) | (go_simp; rfl)); intro gb269 hg w22 hbox hb; have n0_ := qh10 (blk_below (g := gb268) (o := .cells #[.int .i64 a0_0, .int .i64 a0_1, .string a0_2] 137 (0, 0)) (by (with_reducible repeat (first | apply qa10 | apply qb10 | apply qc10)); exact BK268.out) hb); have n1_ := qh10 (qi10 (by repeat (first | (with_reducible first | exact HB.out | apply qd10 | apply qe10 | apply qf10 | refine qg10 ?_ GE268.out) | exact HB.out)) hb); have n2_ := qh10 (hbox); have n3_ := qh10 ((by rw [hg]; exact (qj10 (by repeat (first | (with_reducible first | exact HB.out | apply qd10 | apply qe10 | apply qf10 | refine qg10 ?_ GE268.out) | exact HB.out))) : w.heap.size ≤ gb269)); have n4_ := qh10 ((by rw [hg]; exact (qj10 (by repeat (first | (with_reducible first | exact HB.out | apply qd10 | apply qe10 | apply qf10 | refine qg10 ?_ GE268.out) | exact HB.out))) : w.heap.size ≤ gb269)); have n5_ := qh10 ((by rw [hg]; exact Nat.ne_of_lt (blk_lt (g := gb268) (o := .cells #[.int .i64 a0_0, .int .i64 a0_1, .string a0_2] 137 (0, 0)) (by (with_reducible repeat (first | apply qa10 | apply qb10 | apply qc10)); exact BK268.out)) : gb268 ≠ gb269)); have n6_ := qh10 ((by rw [hg]; exact Nat.ne_of_gt (blk_lt (g := gb268) (o := .cells #[.int .i64 a0_0, .int .i64 a0_1, .string a0_2] 137 (0, 0)) (by (with_reducible repeat (first | apply qa10 | apply qb10 | apply qc10)); exact BK268.out)) : gb269 ≠ gb268)); clear BK268; clear HB; have BK268 := n0_; have HB := n1_; have BK269 := n2_; have GW269 := n3_; have GE269 := n4_; have NB268_269 := n5_; have NB269_268 := n6_; clear n0_ n1_ n2_ n3_ n4_ n5_ n6_; clear hb hbox hg; have hnb23 := NB268_269.out; have hnc23 := NB269_268.out; have hcz24_0 : w22.cell? ⟨gb268, 0, none⟩ = some (.int .i64 a0_0) := (blk_cell BK268.out 0).trans rfl; have hcz24_1 : w22.cell? ⟨gb268, 1, none⟩ = some (.int .i64 a0_1) := (blk_cell BK268.out 1).trans rfl; have hcz24_2 : w22.cell? ⟨gb268, 2, none⟩ = some (.string a0_2) := (blk_cell BK268.out 2).trans rfl; have hfz24_0 := blk_frozen BK268.out 0; have hfz24_1 := blk_frozen BK268.out 1; have hfz24_2 := blk_frozen BK268.out 2; have hcz25_0 : w22.cell? ⟨gb269, 0, none⟩ = some (.int .i64 a1_0) := (blk_cell BK269.out 0).trans rfl; have hcz25_1 : w22.cell? ⟨gb269, 1, none⟩ = some (.int .i64 a1_1) := (blk_cell BK269.out 1).trans rfl; have hcz25_2 : w22.cell? ⟨gb269, 2, none⟩ = some (.string a1_2) := (blk_cell BK269.out 2).trans rfl; have hfz25_0 := blk_frozen BK269.out 0; have hfz25_1 := blk_frozen BK269.out 1; have hfz25_2 := blk_frozen BK269.out 2))
    go_ret
    exact ⟨by first | rfl | (simp [errW_none, errW_some] <;> rfl) | (simp [*, errW_none, errW_some] <;> rfl), by repeat (first | (with_reducible first | exact HB.out | apply qd10 | apply qe10 | apply qf10 | refine qg10 ?_ GE268.out | refine qg10 ?_ GE269.out) | exact HB.out)⟩

end Go.Proofs.Ytgekkfgljjbikaa.PFnExactBatchBytes
