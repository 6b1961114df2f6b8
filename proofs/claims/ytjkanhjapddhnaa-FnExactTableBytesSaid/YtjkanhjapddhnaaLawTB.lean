/- The law FnExactTableBytes, walked by hand: the way on which every comparison succeeds. -/
import Derived.Test.YtjkanhjapddhnaaMarkC
import Derived.Test.YtjkanhjapddhnaaPFnExactTableBytesx1
import Derived.Test.YtjkanhjapddhnaaPFnExactTableBytesx2
import Derived.Test.YtjkanhjapddhnaaPFnExactTableBytesx5
import Derived.Test.YtjkanhjapddhnaaPFnExactTableBytesx7
import Derived.Test.YtjkanhjapddhnaaPFnExactTableBytesx8
namespace Go.Proofs.Ytjkanhjapddhnaa.PFnExactTableBytes
open Go.RowKit Go.Proofs.YtjkanhjapddhnaaV.PrintWords Go.Proofs.YtjkanhjapddhnaaV.PrintMore Go.Proofs.YtjkanhjapddhnaaV.PrintLast Go.Proofs.Ytjkanhjapddhnaa.Own Go.Proofs.Ytjkanhjapddhnaa.MarkT Go.Proofs.Ytjkanhjapddhnaa.MarkC Go.Proofs.Ytjkanhjapddhnaa.Quiet2 Go.Lib
set_option linter.unusedVariables false
set_option linter.unusedSimpArgs false
set_option maxHeartbeats 20000000
set_option maxRecDepth 100000
theorem law_neg (k : Nat) (t0 t1 : Int) (A2 : Option Addr) (c2 : Nat) (l2 : List S110) (A3 : Option Addr) (c3 : Nat) (l3 : List S116) (r : Int) (w : World) (hr2 : Kd.C k110 w A2 l2.length l2) (hc2 : l2.length ≤ c2) (hr3 : Kd.C k116 w A3 l3.length l3) (hc3 : l3.length ≤ c3) (h : laws_szTable.f k t0 t1 l2 l3 1048576 = some r) (hneg : r < 0) :
    Calls Try.prog 5 #[.agg #[.int .i64 t0, .int .i64 t1, .slice A2 l2.length c2, .slice A3 l3.length c3]] w fun e w' => e = .returned (.bool true) ∧ Below w.heap.size w w' := by
  have HR2 := Aside0.mk hr2
  have HR3 := Aside0.mk hr3
  have HC2 := Aside0.mk hc2
  have HC3 := Aside0.mk hc3
  have HS := Aside0.mk h
  clear hr2 hr3 hc2 hc3 h
  go_enter Try.func5, Try.ntmps5
  go_wp2_with fail
  refine (laws_szTable.calls k t0 t1 A2 c2 l2 A3 c3 l3 _ _ _ (Kd.C_alloc HR2.out _) HC2.out (Kd.C_alloc HR3.out _) HC3.out HS.out).mono ?_
  rintro _ w1 ⟨rfl, hb⟩
  have HB := Aside0.mk (below_then (below_alloc (Below.refl w.heap.size w) (.cells #[.int .i64 t0, .int .i64 t1, .slice A2 l2.length c2, .slice A3 l3.length c3] 25 (0, 0))) (by simp) hb)
  have p0 : decide (r < 0) = true := decide_eq_true hneg
  clear hb
  go_wp2_with fail
  go_ret
  exact ⟨rfl, HB.out⟩
/-- A world of the walk: what the caller had stands, and the argument's box. -/
structure In (w : World) (bx : Obj) (W : World) : Prop where
  b : Below w.heap.size w W
  g : W.heap[w.heap.size]? = some bx
theorem In.lt {w W : World} {bx : Obj} (h : In w bx W) : w.heap.size < W.heap.size := (Array.getElem?_eq_some_iff.1 h.g).1
theorem In.then {w W W' : World} {bx : Obj} (h : In w bx W) (hb : Below W.heap.size W W') : In w bx W' := ⟨below_then h.b h.b.size hb, (hb.block _ h.lt).trans h.g⟩
theorem In.fr {w W W' : World} {bx : Obj} {S : Nat → Prop} (h : In w bx W) (hb : Fr S W W') (hs : ∀ k, S k → w.heap.size < k) : In w bx W' :=
  ⟨⟨hb.os.trans h.b.os, hb.tape.trans h.b.tape, hb.output.trans h.b.output, Nat.le_trans h.b.size hb.size, fun k hk => (hb.block k (Nat.lt_of_lt_of_le hk h.b.size) (fun hh => by have := hs k hh; omega)).trans (h.b.block k hk)⟩, (hb.block _ h.lt (fun hh => by have := hs _ hh; omega)).trans h.g⟩
theorem law_pos (k : Nat) (t0 t1 : Int) (A2 : Option Addr) (c2 : Nat) (l2 : List S110) (A3 : Option Addr) (c3 : Nat) (l3 : List S116) (r : Int) (m2 : List S70) (m3 : List S77) (bs : List Int) (cd : Int) (ms : List Int) (m : Int) (mt : Int → ByteArray) (w : World) (hr2 : Kd.C k110 w A2 l2.length l2) (hc2 : l2.length ≤ c2) (hr3 : Kd.C k116 w A3 l3.length l3) (hc3 : l3.length ≤ c3)
    (h1 : laws_szTable.f k t0 t1 l2 l3 1048576 = some r) (hpos : 0 ≤ r) (h2 : laws_toTable.f k t0 t1 l2 l3 = some (t0, t1, m2, m3)) (h3 : spec_TableBytes.f k t0 t1 m2 m3 = some (bs, cd)) (h4 : impl_TableBytes.f t0 t1 m2 m3 = some (bs, cd)) (h5 : laws_eqByteS.f k bs bs = some true)
    (h6 : laws_markByteS.f k bs 1 = some (m, ms)) (h7 : laws_heldByteS.f k ms 1 = some m) (hm : 0 ≤ m) (h8 : ∀ j : Int, 0 ≤ j → j ≤ 4611686018427387904 → laws_markText.f k j = some (mt j)) (hz : m2.length ≤ 1048576 ∧ m3.length ≤ 1048576 ∧ ∀ x ∈ m2, x.f4.length ≤ 1048576) :
    Calls Try.prog 5 #[.agg #[.int .i64 t0, .int .i64 t1, .slice A2 l2.length c2, .slice A3 l3.length c3]] w fun e w' => e = .returned (.bool true) ∧ Below w.heap.size w w' := by
  have HR2 := Aside0.mk hr2
  have HR3 := Aside0.mk hr3
  have HC2 := Aside0.mk hc2
  have HC3 := Aside0.mk hc3
  have H1 := Aside0.mk h1
  have H2 := Aside0.mk h2
  have H3 := Aside0.mk h3
  have H4 := Aside0.mk h4
  have H5 := Aside0.mk h5
  have H6 := Aside0.mk h6
  have H7 := Aside0.mk h7
  have H8 := Aside0.mk h8
  have HZ := Aside0.mk hz
  clear hr2 hr3 hc2 hc3 h1 h2 h3 h4 h5 h6 h7 h8 hz
  go_enter Try.func5, Try.ntmps5
  obtain ⟨bx, hbx⟩ : ∃ bx : Obj, bx = .cells #[.int .i64 t0, .int .i64 t1, .slice A2 l2.length c2, .slice A3 l3.length c3] 25 (0, 0) := ⟨_, rfl⟩
  have I0 := Aside0.mk (In.mk (below_alloc (Below.refl w.heap.size w) bx) (heap_alloc_new w bx))
  rw [hbx] at I0
  go_wp2_with fail
  rw [← hbx] at I0 ⊢
  generalize w.alloc bx = W0 at I0 ⊢
  refine (laws_szTable.calls k t0 t1 A2 c2 l2 A3 c3 l3 _ _ _ (Kd.C_below HR2.out I0.out.b) HC2.out (Kd.C_below HR3.out I0.out.b) HC3.out H1.out).mono ?_
  rintro _ W1 ⟨rfl, hb⟩
  have I1 := Aside0.mk (I0.out.then hb)
  have p0 : decide (r < 0) = false := decide_eq_false (by omega)
  have hg : W1.heap[w.heap.size]? = some (.cells #[.int .i64 t0, .int .i64 t1, .slice A2 l2.length c2, .slice A3 l3.length c3] 25 (0, 0)) := by rw [← hbx]; exact I1.out.g
  have x0 : W1.cell? ⟨w.heap.size, 0, none⟩ = some (.int .i64 t0) := (blk_cell hg 0).trans rfl
  have x1 : W1.cell? ⟨w.heap.size, 1, none⟩ = some (.int .i64 t1) := (blk_cell hg 1).trans rfl
  have x2 : W1.cell? ⟨w.heap.size, 2, none⟩ = some (.slice A2 l2.length c2) := (blk_cell hg 2).trans rfl
  have x3 : W1.cell? ⟨w.heap.size, 3, none⟩ = some (.slice A3 l3.length c3) := (blk_cell hg 3).trans rfl
  clear hb hg
  go_wp2_with fail
  refine (laws_toTable.calls k t0 t1 A2 c2 l2 A3 c3 l3 _ _ _ _ _ (Kd.C_below HR2.out I1.out.b) HC2.out (Kd.C_below HR3.out I1.out.b) HC3.out H2.out).mono ?_
  rintro _ W2 ⟨v2, v3, rfl, hs, hs3, hb⟩
  have I2 := Aside0.mk (I1.out.then hb)
  obtain ⟨a2, d2, rfl, hl2, hcc2⟩ := Kd.R_reads (Kd.S_R hs)
  obtain ⟨a3, d3, rfl, hl3, hcc3⟩ := Kd.R_reads hs3
  clear hs hs3 hb x0 x1 x2 x3
  go_wp2_with fail
  refine (spec_TableBytes.calls k t0 t1 a2 d2 m2 a3 d3 m3 _ _ _ hcc2 hl2 hcc3 hl3 H3.out).mono ?_
  rintro _ W3 ⟨v0, rfl, hrow, hb⟩
  have I3 := Aside0.mk (I2.out.then hb)
  have hrow := Kd.R_lower (Kd.R_mono (ok' := fun j => j < W3.heap.size) (Kd.R_bound hrow) (fun j hj => hj.2.2.1)) I2.out.b.size
  obtain ⟨a0, d0, rfl, hl0, _⟩ := Kd.R_reads hrow
  have HL0 := Aside0.mk hl0
  have Q3 := Aside0.mk hrow
  clear hb hrow hl0 hcc2 hcc3 hl2 hl3
  have hg : W3.heap[w.heap.size]? = some (.cells #[.int .i64 t0, .int .i64 t1, .slice A2 l2.length c2, .slice A3 l3.length c3] 25 (0, 0)) := by rw [← hbx]; exact I3.out.g
  have x0 : W3.cell? ⟨w.heap.size, 0, none⟩ = some (.int .i64 t0) := (blk_cell hg 0).trans rfl
  have x1 : W3.cell? ⟨w.heap.size, 1, none⟩ = some (.int .i64 t1) := (blk_cell hg 1).trans rfl
  have x2 : W3.cell? ⟨w.heap.size, 2, none⟩ = some (.slice A2 l2.length c2) := (blk_cell hg 2).trans rfl
  have x3 : W3.cell? ⟨w.heap.size, 3, none⟩ = some (.slice A3 l3.length c3) := (blk_cell hg 3).trans rfl
  clear hg
  go_wp2_with fail
  refine (laws_toTable.calls k t0 t1 A2 c2 l2 A3 c3 l3 _ _ _ _ _ (Kd.C_below HR2.out I3.out.b) HC2.out (Kd.C_below HR3.out I3.out.b) HC3.out H2.out).mono ?_
  rintro _ W4 ⟨v2, v3, rfl, hs, hs3, hb⟩
  have I4 := Aside0.mk (I3.out.then hb)
  have Q4 := Aside0.mk (Kd.R_below Q3.out hb)
  have N34 := Aside0.mk hb.size
  obtain ⟨x2_, d2_, rfl, hl2, hcc2⟩ := Kd.R_reads (Kd.S_R hs)
  obtain ⟨x3_, d3_, rfl, hl3, hcc3⟩ := Kd.R_reads hs3
  obtain ⟨els, ob, hLR, hof, hofs, hns⟩ := rows_of hs
  obtain ⟨xs, ob3, hrw3, hof3⟩ := row_ofR hs3
  have HLR := Aside0.mk hLR
  have HOF := Aside0.mk hof
  have HOFS := Aside0.mk hofs
  have HNS := Aside0.mk hns
  have HRW3 := Aside0.mk hrw3
  have HOF3 := Aside0.mk hof3
  have HL2 := Aside0.mk hl2
  have HL3 := Aside0.mk hl3
  have HCC2 := Aside0.mk hcc2
  have HCC3 := Aside0.mk hcc3
  clear hs hs3 hb hLR hof hofs hns hrw3 hof3 hl2 hl3 hcc2 hcc3 x0 x1 x2 x3
  obtain ⟨by_, hby⟩ : ∃ by_ : Obj, by_ = .cells #[.int .i64 t0, .int .i64 t1, .slice x2_ m2.length d2_, .slice x3_ m3.length d3_] 31 (0, 0) := ⟨_, rfl⟩
  have hb := below_alloc (Below.refl W4.heap.size W4) by_
  have I5 := Aside0.mk (I4.out.then hb)
  have Q5 := Aside0.mk (Kd.R_below Q4.out hb)
  have G5 := Aside0.mk (heap_alloc_new W4 by_)
  have HCC25 := Aside0.mk (Kd.C_below HCC2.out hb)
  have HCC35 := Aside0.mk (Kd.C_below HCC3.out hb)
  have HB5 := Aside0.mk hb
  clear hb
  rw [hby] at I5 Q5 G5 HCC25 HCC35 HB5
  go_wp2_with fail
  rw [← hby] at I5 Q5 G5 HCC25 HCC35 HB5 ⊢
  have N45 := Aside0.mk (blk_lt G5.out)
  generalize W4.alloc by_ = W5 at I5 Q5 G5 HCC25 HCC35 N45 HB5 ⊢
  refine (impl_TableBytes.calls t0 t1 x2_ d2_ m2 x3_ d3_ m3 _ _ _ HCC25.out HL2.out HCC35.out HL3.out H4.out).mono ?_
  rintro _ W6 ⟨v0, rfl, hrow, hb⟩
  have I6 := Aside0.mk (I5.out.then hb)
  have Q6 := Aside0.mk (Kd.R_below Q5.out hb)
  have G6 := Aside0.mk ((hb.block _ N45.out).trans G5.out)
  have N46 := Aside0.mk (Nat.lt_of_lt_of_le N45.out hb.size)
  have HB6 := Aside0.mk (below_then HB5.out HB5.out.size hb)
  have hrow := Kd.R_lower (Kd.R_mono (ok' := fun j => W5.heap.size ≤ j) (Kd.R_bound hrow) (fun j hj => hj.2.1)) I5.out.b.size
  obtain ⟨g0, e0, rfl, hg0, hgc⟩ := Kd.R_reads hrow
  have HE0 := Aside0.mk hg0
  have P6 := Aside0.mk hrow
  clear hb hrow hg0 hgc
  go_wp2_with fail
  refine (laws_eqByteS.calls k g0 e0 bs a0 d0 bs _ _ (Kd.R_reads' P6.out).2.2 HE0.out (Kd.R_reads' Q6.out).2.2 HL0.out H5.out).mono ?_
  rintro _ W7 ⟨rfl, hd⟩
  have hb := hd.below
  have I7 := Aside0.mk (I6.out.then hb)
  have Q7 := Aside0.mk (Kd.R_below Q6.out hb)
  have P7 := Aside0.mk (Kd.R_below P6.out hb)
  have G7 := Aside0.mk ((hb.block _ N46.out).trans G6.out)
  have N47 := Aside0.mk (Nat.lt_of_lt_of_le N46.out hb.size)
  have HB7 := Aside0.mk (below_then HB6.out HB6.out.size hb)
  clear hd hb
  go_upto_region 10 with fail
  have hI : ∀ {W : World}, In w bx W → W.heap[w.heap.size]? = some (.cells #[.int .i64 t0, .int .i64 t1, .slice A2 l2.length c2, .slice A3 l3.length c3] 25 (0, 0)) := fun h => by rw [← hbx]; exact h.g
  have hY : ∀ {W : World}, W.heap[W4.heap.size]? = some by_ → W.heap[W4.heap.size]? = some (.cells #[.int .i64 t0, .int .i64 t1, .slice x2_ m2.length d2_, .slice x3_ m3.length d3_] 31 (0, 0)) := fun h => by rw [← hby]; exact h
  refine start_ (n := 5) (S := fun w' => w'.cell? ⟨w.heap.size, 0, none⟩ = some (.int .i64 t0) ∧ w'.cell? ⟨w.heap.size, 1, none⟩ = some (.int .i64 t1) ∧ w'.cell? ⟨w.heap.size, 2, none⟩ = some (.slice A2 l2.length c2) ∧ w'.cell? ⟨w.heap.size, 3, none⟩ = some (.slice A3 l3.length c3) ∧ w'.cell? ⟨W4.heap.size, 0, none⟩ = some (.int .i64 t0) ∧ w'.cell? ⟨W4.heap.size, 1, none⟩ = some (.int .i64 t1) ∧ w'.cell? ⟨W4.heap.size, 2, none⟩ = some (.slice x2_ m2.length d2_) ∧ w'.cell? ⟨W4.heap.size, 3, none⟩ = some (.slice x3_ m3.length d3_)) (ds := []) #[false, false, false, false, false] (by kernel_rfl) rfl rfl
    ⟨(blk_cell (hI I7.out) 0).trans rfl, (blk_cell (hI I7.out) 1).trans rfl, (blk_cell (hI I7.out) 2).trans rfl, (blk_cell (hI I7.out) 3).trans rfl, (blk_cell (hY G7.out) 0).trans rfl, (blk_cell (hY G7.out) 1).trans rfl, (blk_cell (hY G7.out) 2).trans rfl, (blk_cell (hY G7.out) 3).trans rfl⟩ (fun hHeld => ?_)
  have hd7 := below_drew (Below.refl W7.heap.size W7)
  have I8 := Aside0.mk (I7.out.then hd7)
  have Q8 := Aside0.mk (Kd.R_below Q7.out hd7)
  have P8 := Aside0.mk (Kd.R_below P7.out hd7)
  have G8 := Aside0.mk ((hd7.block _ N47.out).trans G7.out)
  have N48 := Aside0.mk (Nat.lt_of_lt_of_le N47.out hd7.size)
  have HB8 := Aside0.mk (below_then HB7.out HB7.out.size hd7)
  clear hd7
  generalize W7.drew = W8 at I8 Q8 P8 G8 N48 HB8 hHeld ⊢
  refine take_ (i := 0) (N := some 41) (v := ?_) (a' := ?_) #[true, false, false, false, false] rfl rfl (by kernel_rfl) (fun _ _ _ h => h) (Or.inl ⟨by rfl, ?_⟩) hHeld ?_ ?_
  rotate_left
  · rintro w' ⟨s0, s1, s2, s3, s4, s5, s6, s7⟩
    go_simp
    with_reducible rfl
  rotate_left
  · simp only [Act.put, List.setIfInBounds_toArray, List.set_cons_zero, List.set_cons_succ, i64_w, i32_w]
    rfl
  refine take_ (i := 1) (N := some 42) (v := ?_) (a' := ?_) #[true, true, false, false, false] rfl rfl (by kernel_rfl) (fun _ _ _ h => h) (Or.inl ⟨by rfl, ?_⟩) hHeld ?_ ?_
  rotate_left
  · rintro w' ⟨s0, s1, s2, s3, s4, s5, s6, s7⟩
    go_simp
    with_reducible rfl
  rotate_left
  · simp only [Act.put, List.setIfInBounds_toArray, List.set_cons_zero, List.set_cons_succ, i64_w, i32_w]
    rfl
  refine one_ (i := 2) (N := some 43) #[true, true, true, false, false] rfl rfl (by kernel_rfl) (by decide) (fun K hK => ?_)
  refine goes_ Try.func10 (by kernel_rfl) rfl #[.agg #[.int .i64 t0, .int .i64 t1, .slice A2 l2.length c2, .slice A3 l3.length c3]] (by rfl) rfl rfl (by (try simp only [List.map_toArray, List.map_cons, List.map_nil]); first | done | rfl) ?_
  refine (laws_toTable.calls k t0 t1 A2 c2 l2 A3 c3 l3 _ _ _ _ _ (Kd.C_below HR2.out I8.out.b) HC2.out (Kd.C_below HR3.out I8.out.b) HC3.out H2.out).mono ?_
  rintro _ W9 ⟨v2, v3, rfl, hs, hs3, hb⟩
  refine ⟨_, rfl, ?_⟩
  have I9 := Aside0.mk (I8.out.then hb)
  have Q9 := Aside0.mk (Kd.R_below Q8.out hb)
  have P9 := Aside0.mk (Kd.R_below P8.out hb)
  have G9 := Aside0.mk ((hb.block _ N48.out).trans G8.out)
  have N49 := Aside0.mk (Nat.lt_of_lt_of_le N48.out hb.size)
  have HB9 := Aside0.mk (below_then HB8.out HB8.out.size hb)
  obtain ⟨y2_, f2_, rfl, hl2, hcc2⟩ := Kd.R_reads (Kd.S_R hs)
  obtain ⟨y3_, f3_, rfl, hl3, hcc3⟩ := Kd.R_reads hs3
  clear hs hs3 hb hHeld
  refine hK.out _ _ ⟨(blk_cell (hI I9.out) 0).trans rfl, (blk_cell (hI I9.out) 1).trans rfl, (blk_cell (hI I9.out) 2).trans rfl, (blk_cell (hI I9.out) 3).trans rfl, (blk_cell (hY G9.out) 0).trans rfl, (blk_cell (hY G9.out) 1).trans rfl, (blk_cell (hY G9.out) 2).trans rfl, (blk_cell (hY G9.out) 3).trans rfl⟩ (fun hHeld => ?_)
  clear hK K
  refine norm_ (a' := ?_) ?_ ?_
  rotate_left
  · show Act.put _ (some 43) _ = _
    simp only [Act.put, List.setIfInBounds_toArray, List.set_cons_zero, List.set_cons_succ, i64_w, i32_w]
    rfl
  refine one_ (i := 3) (N := some 44) #[true, true, true, true, false] rfl rfl (by kernel_rfl) (by decide) (fun K hK => ?_)
  refine goes_ Try.func12 (by kernel_rfl) rfl #[.agg #[.int .i64 t0, .int .i64 t1, .slice x2_ m2.length d2_, .slice x3_ m3.length d3_], .agg #[.int .i64 t0, .int .i64 t1, .slice y2_ m2.length f2_, .slice y3_ m3.length f3_]] (by rfl) rfl rfl (by (try simp only [List.map_toArray, List.map_cons, List.map_nil]); first | done | rfl) ?_
  refine (laws_eqTable.calls t0 t1 x2_ d2_ m2 x3_ d3_ m3 t0 t1 y2_ f2_ m2 y3_ f3_ m3 true _ (Kd.C_below HCC2.out HB9.out) HL2.out (Kd.C_below HCC3.out HB9.out) HL3.out hcc2 hl2 hcc3 hl3 (laws_eqTable.same _ _ _ _)).mono ?_
  rintro _ W10 ⟨rfl, hb⟩
  refine ⟨_, rfl, ?_⟩
  have I10 := Aside0.mk (I9.out.then hb)
  have Q10 := Aside0.mk (Kd.R_below Q9.out hb)
  have P10 := Aside0.mk (Kd.R_below P9.out hb)
  have G10 := Aside0.mk ((hb.block _ N49.out).trans G9.out)
  have N410 := Aside0.mk (Nat.lt_of_lt_of_le N49.out hb.size)
  have HB10 := Aside0.mk (below_then HB9.out HB9.out.size hb)
  clear hb hHeld hcc2 hl2 hcc3 hl3
  refine hK.out _ _ ⟨(blk_cell (hI I10.out) 0).trans rfl, (blk_cell (hI I10.out) 1).trans rfl, (blk_cell (hI I10.out) 2).trans rfl, (blk_cell (hI I10.out) 3).trans rfl, (blk_cell (hY G10.out) 0).trans rfl, (blk_cell (hY G10.out) 1).trans rfl, (blk_cell (hY G10.out) 2).trans rfl, (blk_cell (hY G10.out) 3).trans rfl⟩ (fun hHeld => ?_)
  clear hK K
  refine norm_ (a' := ?_) ?_ ?_
  rotate_left
  · show Act.put _ (some 44) _ = _
    simp only [Act.put, List.setIfInBounds_toArray, List.set_cons_zero, List.set_cons_succ, i64_w, i32_w]
    rfl
  refine pure_ (i := 4) (N := some 45) (v := ?_) (a' := ?_) #[true, true, true, true, true] rfl rfl (by kernel_rfl) (fun _ _ _ h => h) (Or.inl ⟨by rfl, ?_⟩) ?_ ?_
  rotate_left
  · intro w'
    go_simp
    with_reducible rfl
  rotate_left
  · simp only [Act.put, List.setIfInBounds_toArray, List.set_cons_zero, List.set_cons_succ, i64_w, i32_w]
    rfl
  refine done_ (by kernel_rfl) ?_
  clear hHeld
  have x0 : W10.cell? ⟨W4.heap.size, 0, none⟩ = some (.int .i64 t0) := (blk_cell (hY G10.out) 0).trans rfl
  have x1 : W10.cell? ⟨W4.heap.size, 1, none⟩ = some (.int .i64 t1) := (blk_cell (hY G10.out) 1).trans rfl
  have x2 : W10.cell? ⟨W4.heap.size, 2, none⟩ = some (.slice x2_ m2.length d2_) := (blk_cell (hY G10.out) 2).trans rfl
  have x3 : W10.cell? ⟨W4.heap.size, 3, none⟩ = some (.slice x3_ m3.length d3_) := (blk_cell (hY G10.out) 3).trans rfl
  go_wp2_with fail
  have hnn : ∀ e ∈ els, e.n ≤ 1048576 := fun e he => by
    have h1 : e.n ∈ List.map (fun x : S70 => x.f4.length) m2 := by rw [← HNS.out]; exact List.mem_map_of_mem he
    obtain ⟨x, hx, hxe⟩ := List.mem_map.1 h1
    rw [← hxe]
    exact HZ.out.2.2 x hx
  have hll : els.length = m2.length := by have := congrArg List.length HNS.out; simpa using this
  have hlc : lc els ≤ 1048576 * (4 + 2 * 1048576) := Nat.le_trans (lc_le els 1048576 hnn) (Nat.mul_le_mul_right _ (by rw [hll]; exact HZ.out.1))
  have hn3 : m3.length ≤ 1048576 := HZ.out.2.1
  have hS : ∀ b, ob = some b ∨ (∃ e ∈ els, e.ob = some b) → (W3.heap.size ≤ b ∧ b < W4.heap.size) ∧ ob3 ≠ some b := by
    rintro b (h | ⟨e, he, h⟩)
    · exact ⟨HOF.out.lt b h, Of.apart HOF.out HOF3.out (by decide) b h⟩
    · exact ⟨(HOFS.out e he).lt b h, Of.apart (HOFS.out e he) HOF3.out (by decide) b h⟩
  refine (markTab_calls mt (fun j W h h' => laws_markText.calls k j _ W (H8.out j h h')) t0 t1 _ _ els m3.length xs ob ob3 1 W10 (fun b => W3.heap.size ≤ b ∧ b < W4.heap.size) (HLR.out.kept (fun b hb => HB10.out.block b hb)) (HRW3.out.kept (fun b hb => HB10.out.block b (HRW3.out.lt b hb))) hS (fun b hb => HOF3.out.lt b hb) (by omega) (by omega)).mono ?_
  rintro _ W11 ⟨rfl, _, _, hfr⟩
  have I11 := Aside0.mk (I10.out.fr hfr (fun j hj => Nat.lt_of_lt_of_le I3.out.lt hj.1))
  have Q11 := Aside0.mk (Kd.R_step Q10.out (fun j hj hlt => hfr.block j hlt (fun hh => by have := hh.1; omega)))
  have P11 := Aside0.mk (Kd.R_step P10.out (fun j hj hlt => hfr.block j hlt (fun hh => by have := hh.2; have := N45.out; omega)))
  obtain ⟨kk, hkk⟩ : ∃ kk : Int, kk = 1 + (lc els : Int) + 6 * (m3.length : Int) := ⟨_, rfl⟩
  have p1 : decide (kk < 0) = false := decide_eq_false (by omega)
  rw [← hkk]
  clear hS hfr hnn hll hlc hn3 hkk x0 x1 x2 x3
  go_wp2_with fail
  refine (laws_eqByteS.calls k g0 e0 bs a0 d0 bs _ _ (Kd.R_reads' P11.out).2.2 HE0.out (Kd.R_reads' Q11.out).2.2 HL0.out H5.out).mono ?_
  rintro _ W12 ⟨rfl, hd⟩
  have hb := hd.below
  have I12 := Aside0.mk (I11.out.then hb)
  have Q12 := Aside0.mk (Kd.R_below Q11.out hb)
  have P12 := Aside0.mk (Kd.R_below P11.out hb)
  clear hd hb
  go_wp2_with fail
  refine (laws_markByteS.calls k (fun j => W5.heap.size ≤ j) _ bs 1 m ms w W12 I12.out.b P12.out H6.out).mono ?_
  rintro _ W13 ⟨rfl, hrow, hbw, hkp⟩
  have hw5 : w.heap.size < W5.heap.size := I5.out.lt
  have h35 : W3.heap.size ≤ W5.heap.size := by have := N34.out; have := N45.out; omega
  have I13 := Aside0.mk (In.mk hbw ((hkp.2 _ I12.out.lt (by omega)).trans I12.out.g))
  have Q13 := Aside0.mk (Kd.R_step Q12.out (fun j hj hlt => hkp.2 j hlt (by omega)))
  have HMS := Aside0.mk (Kd.R_reads' hrow).1
  have P13 := Aside0.mk hrow
  clear hrow hbw hkp hw5 h35
  have HE1 := Aside0.mk (show ms.length ≤ e0 by rw [← HMS.out]; exact HE0.out)
  go_wp2_with fail
  have hq := laws_heldByteS.calls k g0 e0 ms 1 m W13 (Kd.R_reads' P13.out).2.2 HE1.out H7.out
  rw [← HMS.out] at hq
  refine hq.mono ?_
  rintro _ W14 ⟨rfl, hd⟩
  have hb := hd.below
  have I14 := Aside0.mk (I13.out.then hb)
  have Q14 := Aside0.mk (Kd.R_below Q13.out hb)
  have P14 := Aside0.mk (Kd.R_below P13.out hb)
  have p2 : decide (m < 0) = false := decide_eq_false (by omega)
  have x0 : W14.cell? ⟨w.heap.size, 0, none⟩ = some (.int .i64 t0) := (blk_cell (hI I14.out) 0).trans rfl
  have x1 : W14.cell? ⟨w.heap.size, 1, none⟩ = some (.int .i64 t1) := (blk_cell (hI I14.out) 1).trans rfl
  have x2 : W14.cell? ⟨w.heap.size, 2, none⟩ = some (.slice A2 l2.length c2) := (blk_cell (hI I14.out) 2).trans rfl
  have x3 : W14.cell? ⟨w.heap.size, 3, none⟩ = some (.slice A3 l3.length c3) := (blk_cell (hI I14.out) 3).trans rfl
  clear hd hb hq
  go_wp2_with fail
  refine (laws_toTable.calls k t0 t1 A2 c2 l2 A3 c3 l3 _ _ _ _ _ (Kd.C_below HR2.out I14.out.b) HC2.out (Kd.C_below HR3.out I14.out.b) HC3.out H2.out).mono ?_
  rintro _ W15 ⟨v2, v3, rfl, hs, hs3, hb⟩
  have I15 := Aside0.mk (I14.out.then hb)
  have Q15 := Aside0.mk (Kd.R_below Q14.out hb)
  have P15 := Aside0.mk (Kd.R_below P14.out hb)
  obtain ⟨y2_, f2_, rfl, hl2, hcc2⟩ := Kd.R_reads (Kd.S_R hs)
  obtain ⟨y3_, f3_, rfl, hl3, hcc3⟩ := Kd.R_reads hs3
  clear hs hs3 hb x0 x1 x2 x3
  go_wp2_with fail
  refine (impl_TableBytes.calls t0 t1 y2_ f2_ m2 y3_ f3_ m3 _ _ _ hcc2 hl2 hcc3 hl3 H4.out).mono ?_
  rintro _ W16 ⟨v0, rfl, hrow, hb⟩
  have I16 := Aside0.mk (I15.out.then hb)
  have Q16 := Aside0.mk (Kd.R_below Q15.out hb)
  have P16 := Aside0.mk (Kd.R_below P15.out hb)
  obtain ⟨h0, i0, rfl, hh0, hhc⟩ := Kd.R_reads hrow
  clear hrow hb hcc2 hl2 hcc3 hl3
  go_wp2_with fail
  refine (laws_eqByteS.calls k h0 i0 bs a0 d0 bs _ _ hhc hh0 (Kd.R_reads' Q16.out).2.2 HL0.out H5.out).mono ?_
  rintro _ W17 ⟨rfl, hd⟩
  have hb := hd.below
  have I17 := Aside0.mk (I16.out.then hb)
  have P17 := Aside0.mk (Kd.R_below P16.out hb)
  clear hd hb hh0 hhc
  go_wp2_with fail
  have hq := laws_heldByteS.calls k g0 e0 ms 1 m W17 (Kd.R_reads' P17.out).2.2 HE1.out H7.out
  rw [← HMS.out] at hq
  refine hq.mono ?_
  rintro _ W18 ⟨rfl, hd⟩
  have I18 := Aside0.mk (I17.out.then hd.below)
  clear hd hq
  go_wp2_with fail
  go_ret
  exact ⟨rfl, I18.out.b⟩
end Go.Proofs.Ytjkanhjapddhnaa.PFnExactTableBytes
