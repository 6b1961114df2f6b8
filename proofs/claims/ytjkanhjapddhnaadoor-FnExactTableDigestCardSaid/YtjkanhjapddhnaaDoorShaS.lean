/- The block function of the reference's hash, walked: what it leaves in its first row is shaBlock of it and of the bytes; no condition. -/
import Derived.Test.YtjkanhjapddhnaaDoorShaI
import Derived.Laws.BitsAllLaws
namespace Go.Proofs.YtjkanhjapddhnaaDoor.Sha
open Go.RowKit Go.Proofs.YtjkanhjapddhnaaDoorV.PrintWords Go.Lib
set_option linter.unusedVariables false
set_option maxHeartbeats 4000000
set_option maxRecDepth 100000
theorem bits_or (a b : Int) : Go.bits .or .u32 a b = ((BitVec.ofInt 32 a ||| BitVec.ofInt 32 b).toNat : Int) := by
  show IntKind.u32.wrap ((BitVec.ofInt 32 a ||| BitVec.ofInt 32 b).toNat : Int) = _
  have := (BitVec.ofInt 32 a ||| BitVec.ofInt 32 b).isLt
  rw [IntKind.wrap_u32']
  omega
theorem bits_and (a b : Int) : Go.bits .and .u32 a b = ((BitVec.ofInt 32 a &&& BitVec.ofInt 32 b).toNat : Int) := by
  show IntKind.u32.wrap ((BitVec.ofInt 32 a &&& BitVec.ofInt 32 b).toNat : Int) = _
  have := (BitVec.ofInt 32 a &&& BitVec.ofInt 32 b).isLt
  rw [IntKind.wrap_u32']
  omega
theorem bits_xor (a b : Int) : Go.bits .xor .u32 a b = ((BitVec.ofInt 32 a ^^^ BitVec.ofInt 32 b).toNat : Int) := by
  show IntKind.u32.wrap ((BitVec.ofInt 32 a ^^^ BitVec.ofInt 32 b).toNat : Int) = _
  have := (BitVec.ofInt 32 a ^^^ BitVec.ofInt 32 b).isLt
  rw [IntKind.wrap_u32']
  omega
theorem ofInt_toNat (x : BitVec 32) : BitVec.ofInt 32 (x.toNat : Int) = x := by
  rw [BitVec.ofInt_natCast]; simp
theorem ch_eq (e f g : Int) : Go.bits .xor .u32 (Go.bits .and .u32 e f) (Go.bits .and .u32 (Go.bits .xor .u32 IntKind.u32.max e) g) = Go.bits .or .u32 (Go.bits .and .u32 e f) (Go.bits .and .u32 (Go.bits .xor .u32 IntKind.u32.max e) g) := by
  simp only [bits_or, bits_and, bits_xor, ofInt_toNat]
  congr 2
  generalize BitVec.ofInt 32 e = A
  generalize BitVec.ofInt 32 f = B
  generalize BitVec.ofInt 32 g = C
  have hM : BitVec.ofInt 32 IntKind.u32.max = BitVec.allOnes 32 := by decide
  rw [hM]
  apply BitVec.eq_of_getLsbD_eq
  intro i hi
  simp only [BitVec.getLsbD_xor, BitVec.getLsbD_and, BitVec.getLsbD_or, BitVec.getLsbD_allOnes, hi, decide_true]
  cases A.getLsbD i <;> cases B.getLsbD i <;> cases C.getLsbD i <;> rfl
theorem turnS_calls (x b : Int) (w : World) (h0 : 0 < b) (h1 : b < 32) : Calls Tryd.prog 40 #[.int .u32 x, .int .u64 b] w fun e w' => e = .returned (.int .u32 (rotr x b)) ∧ w' = w := by
  have h2 : IntKind.u64.wrap (32 - b) = 32 - b := by simp [IntKind.wrap, IntKind.bits, IntKind.signed]; omega
  have hfin := Aside0.mk (show rotr x b = Go.bits .or .u32 (x / 2 ^ b.toNat) (x * 2 ^ (32 - b).toNat % 4294967296) by rw [rotr, bits_or, bits_or, BitVec.or_comm])
  generalize rotr x b = y at hfin ⊢
  go_enter Tryd.func40, Tryd.ntmps40
  go_wp2
  go_ret
  exact ⟨congrArg (fun x => Ending.returned (.int .u32 x)) hfin.out.symm, rfl⟩
/-- The world of the walk: the first row, the words, what is as it was. -/
structure Sb (w wr : World) (gh gw : Nat) (hs ws : List Int) : Prop where
  h : wr.heap[gh]? = some (.cells (enc32 hs).toArray 64 (0, 0))
  wd : wr.heap[gw]? = some (.cells (enc32 ws).toArray 64 (0, 0))
  g : w.grownBy wr (some gh)
  lh : hs.length = 8
  lw : ws.length = 64
  le : w.heap.size ≤ gw
  lt : gh < w.heap.size
section
variable {w wr : World} {gh gw : Nat} {hs ws : List Int}
theorem halt_ {G : Prop} (h : Aside0 G) : G := h.out
theorem gb_drewN {w wr : World} {r : Option Nat} (h : w.grownBy wr r) (n : Nat) : w.grownBy (wr.drewN n) r := ⟨h.os, h.tape, h.output, h.size, h.block⟩
theorem gb_alloc {w wr : World} {r : Option Nat} (h : w.grownBy wr r) (o : Obj) : w.grownBy (wr.alloc o) r :=
  ⟨h.os, h.tape, h.output, Nat.le_trans h.size (by simp), fun k hk hr => (Below.heap_alloc _ _ _ (by have := h.size; omega)).trans (h.block k hk hr)⟩
theorem gb_set {w wr : World} {gh : Nat} (h : w.grownBy wr (some gh)) {p : Addr} (hp : p.block = gh ∨ w.heap.size ≤ p.block) (u : Value) : w.grownBy (wr.setCell p u) (some gh) := by
  refine ⟨h.os, h.tape, h.output, by simpa [World.setCell] using h.size, fun k hk hr => ?_⟩
  have hne : k ≠ p.block := by
    rcases hp with hp | hp
    · intro e; exact hr (by rw [e, hp])
    · omega
  exact (Below.heap_setCell _ _ _ _ hne).trans (h.block k hk hr)
theorem gb_then {w w1 w2 : World} {r : Option Nat} (h : w.grownBy w1 r) (k : w1.grownBy w2 none) : w.grownBy w2 r :=
  ⟨k.os.trans h.os, k.tape.trans h.tape, k.output.trans h.output, Nat.le_trans h.size k.size, fun i hi hr => (k.block i (by have := h.size; omega) (by simp)).trans (h.block i hi hr)⟩
theorem Sb.cw (h : Sb w wr gh gw hs ws) (i : Nat) (hi : i < 64) : wr.cell? ⟨gw, i, none⟩ = some (.int .u32 (nth ws i)) := by
  rw [blk_cell h.wd, enc_get _ _ (by rw [h.lw]; exact hi)]
theorem Sb.ch (h : Sb w wr gh gw hs ws) (i : Nat) (hi : i < 8) : wr.cell? ⟨gh, i, none⟩ = some (.int .u32 (nth hs i)) := by
  rw [blk_cell h.h, enc_get _ _ (by rw [h.lh]; exact hi)]
theorem Sb.drewN (h : Sb w wr gh gw hs ws) (n : Nat) : Sb w (wr.drewN n) gh gw hs ws := ⟨h.h, h.wd, gb_drewN h.g n, h.lh, h.lw, h.le, h.lt⟩
theorem Sb.alloc (h : Sb w wr gh gw hs ws) (o : Obj) : Sb w (wr.alloc o) gh gw hs ws :=
  ⟨(Below.heap_alloc _ _ _ (blk_lt h.h)).trans h.h, (Below.heap_alloc _ _ _ (blk_lt h.wd)).trans h.wd, gb_alloc h.g o, h.lh, h.lw, h.le, h.lt⟩
theorem Sb.setw (h : Sb w wr gh gw hs ws) (i : Nat) (x : Int) : Sb w (wr.setCell ⟨gw, i, none⟩ (.int .u32 x)) gh gw hs (ws.set i x) where
  h := by rw [Below.heap_setCell _ _ _ _ (by have := h.le; have := h.lt; simp; omega)]; exact h.h
  wd := by rw [blk_set h.wd, enc_set]
  g := gb_set h.g (.inr h.le) _
  lh := h.lh
  lw := by rw [List.length_set]; exact h.lw
  le := h.le
  lt := h.lt
theorem Sb.seth (h : Sb w wr gh gw hs ws) (i : Nat) (x : Int) : Sb w (wr.setCell ⟨gh, i, none⟩ (.int .u32 x)) gh gw (hs.set i x) ws where
  h := by rw [blk_set h.h, enc_set]
  wd := by rw [Below.heap_setCell _ _ _ _ (by have := h.le; have := h.lt; simp; omega)]; exact h.wd
  g := gb_set h.g (.inl rfl) _
  lh := by rw [List.length_set]; exact h.lh
  lw := h.lw
  le := h.le
  lt := h.lt
theorem Sb.grown (h : Sb w wr gh gw hs ws) {w2 : World} {b : Nat} (hg : wr.grownBy w2 (some b)) (h1 : gh < b) (h2 : gw < b) : Sb w w2 gh gw hs ws :=
  ⟨(hg.block gh (blk_lt h.h) (by simp; omega)).trans h.h, (hg.block gw (blk_lt h.wd) (by simp; omega)).trans h.wd,
    ⟨hg.os.trans h.g.os, hg.tape.trans h.g.tape, hg.output.trans h.g.output, Nat.le_trans h.g.size hg.size, fun k hk hr => (hg.block k (by have := h.g.size; omega) (by have := h.le; simp; omega)).trans (h.g.block k hk hr)⟩, h.lh, h.lw, h.le, h.lt⟩
theorem enc_cells {W : World} {g : Nat} {xs : List Int} {e : Nat} (h : W.heap[g]? = some (.cells (enc32 xs).toArray e (0, 0))) : ∀ j u, (enc32 xs)[j]? = some u → W.cell? ((⟨g, 0, none⟩ : Addr).add j) = some u := by
  intro j u hj
  rw [Go.WideShapes.add_plain, Nat.zero_add, blk_cell h]
  simpa using hj
theorem enc_one (xs : List Int) : ∀ u ∈ enc32 xs, u.oneCell' = true := by
  intro u hu
  simp only [enc32, List.mem_map] at hu
  obtain ⟨q, _, rfl⟩ := hu
  rfl
theorem own_form8 {W : World} {base e : Nat} {v : Value} {n : Nat} {xs : List Int} (h : W.ownsRow base e 1 v (0 + n) ([] ++ enc32 xs)) (hl : (enc32 xs).length = 8) : ∃ g cap, v = .slice (some ⟨g, 0, none⟩) 8 cap ∧ base ≤ g ∧ ∀ i, i < 8 → W.cell? ⟨g, i, none⟩ = some (.int .u32 (nth xs i)) := by
  have hn : 0 + n = 8 := by have := h.1; simp at this; omega
  rw [hn, List.nil_append] at h
  rcases h.2 with ⟨_, h0⟩ | ⟨g, cap, cur, rfl, hb, hg, h1, h2, h3, h4⟩
  · omega
  · refine ⟨g, cap, rfl, hb, fun i hi => ?_⟩
    have hc := h.cells (g := g) rfl i (.int .u32 (nth xs i)) (by have := enc_get xs i (by simp [enc32] at hl; omega); simpa using this)
    rwa [Go.WideShapes.add_plain, Nat.zero_add] at hc
theorem new8 (W : World) (e : Nat) (x0 x1 x2 x3 x4 x5 x6 x7 : Int) : ∀ i, i < 8 → (W.alloc (.cells #[.int .u32 x0, .int .u32 x1, .int .u32 x2, .int .u32 x3, .int .u32 x4, .int .u32 x5, .int .u32 x6, .int .u32 x7] e)).cell? ⟨W.heap.size, i, none⟩ = some (.int .u32 (nth [x0, x1, x2, x3, x4, x5, x6, x7] i)) := by
  intro i hi
  have h := heap_new W (.cells (enc32 [x0, x1, x2, x3, x4, x5, x6, x7]).toArray e)
  exact (blk_cell h i).trans (enc_get _ _ hi)
theorem Sb.old (h : Sb w wr gh gw hs ws) {a : Addr} {v : Value} (ha : a.block < w.heap.size) (hne : a.block ≠ gh) (hc : w.cell? a = some v) : wr.cell? a = some v :=
  (World.cell?_of_block (h.g.block a.block ha (by simpa using hne))).trans hc
end
theorem blockS_calls (hs bs : List Int) (gh g o c gk ck : Nat) (w : World) (hh : w.heap[gh]? = some (.cells (enc32 hs).toArray 64 (0, 0))) (hl : hs.length = 8)
    (hc : ∀ j, j < 64 → w.cell? ⟨g, o + j, none⟩ = some (.int .u8 (nth bs j))) (hbl : g < w.heap.size) (hne : g ≠ gh)
    (hk : ∀ j, j < 64 → w.cell? ⟨gk, j, none⟩ = some (.int .u32 (nth roundK j))) (hkl : gk < w.heap.size) (hkne : gk ≠ gh) :
    Calls Tryd.prog 26 #[.slice (some ⟨gh, 0, none⟩) 8 8, .slice (some ⟨g, o, none⟩) 64 c, .slice (some ⟨gk, 0, none⟩) 64 ck] w fun e w' => e = .returned (.tuple #[]) ∧ w.grownBy w' (some gh) ∧ w'.heap[gh]? = some (.cells (enc32 (shaBlock hs bs)).toArray 64 (0, 0)) := by
  have hlt := blk_lt hh
  have HH := Aside0.mk hh
  clear hh
  go_enter Tryd.func26, Tryd.ntmps26
  have km : ∀ W : World, (Instr.makeSlice 65 (.int .i64 64) (.int .i64 64)).run Tryd.prog W = .ok (.slice (some ⟨W.heap.size, 0, none⟩) 64 64) (W.alloc (.cells (madeCells #[.int .u32 0] 64) 64)) :=
    print_make 65 64 .u32 4 Tryd.underlying65 (by kernel_rfl) (by decide) 64 (by decide)
  have em : madeCells #[Value.int .u32 0] 64 = (enc32 (List.replicate 64 0)).toArray := by kernel_rfl
  obtain ⟨Z, hZ⟩ : ∃ Z : Array Value, Z = (enc32 (List.replicate 64 0)).toArray := ⟨_, rfl⟩
  rw [em, ← hZ] at km
  have h0 : Sb w (w.alloc (.cells Z 64)) gh w.heap.size hs (List.replicate 64 0) :=
    ⟨(Below.heap_alloc _ _ _ hlt).trans HH.out, by rw [hZ]; exact heap_new _ _, gb_alloc ⟨rfl, rfl, rfl, Nat.le_refl _, fun _ _ _ => rfl⟩ _, hl, rfl, Nat.le_refl _, hlt⟩
  have H0 := Aside0.mk h0
  clear h0 em hZ
  go_wp2
  clear km
  generalize (w.alloc (.cells Z 64)) = wz at H0 ⊢
  generalize w.heap.size = gw at H0 ⊢
  go_loopw [7] (fun v wr => ∃ (k : Nat) (ws : List Int), k ≤ 16 ∧ v = .int .i64 k ∧ Sb w wr gh gw hs ws ∧ Aside0 (fillW bs (16 - k) k ws = fillW bs 16 0 (List.replicate 64 0))) (fun v _ => 16 - (intOf v).toNat)
  case atStart => exact ⟨0, _, Nat.zero_le _, rfl, H0.out, ⟨rfl⟩⟩
  case round =>
    clear H0
    obtain ⟨k, ws, hk', rfl, hst, hf⟩ := hrel
    by_cases hlt1 : k < 16
    · go_wp2
      refine wp_region_still_tail 36 (by kernel_rfl) (by kernel_rfl) ?_
      have hst1 := hst.drewN 1
      generalize hwd : ({ wr with drawn := wr.drawn + 1 } : World) = wd
      have hst2 : Sb w wd gh gw hs ws := hwd ▸ hst1
      clear hst hst1 hwd
      have HS := Aside0.mk hst2
      have c0 := hst2.old hbl hne (hc (4 * k) (by omega))
      have c1 := hst2.old hbl hne (hc (4 * k + 1) (by omega))
      have c2 := hst2.old hbl hne (hc (4 * k + 2) (by omega))
      have c3 := hst2.old hbl hne (hc (4 * k + 3) (by omega))
      have cw := hst2.cw k (by omega)
      have fw := blk_frozen hst2.wd k
      clear hst2
      have e0 : ((4 * (k : Int)) : Int).toNat = 4 * k := by omega
      have e1 : ((4 * (k : Int) + 1) : Int).toNat = 4 * k + 1 := by omega
      have e2 : ((4 * (k : Int) + 2) : Int).toNat = 4 * k + 2 := by omega
      have e3 : ((4 * (k : Int) + 3) : Int).toNat = 4 * k + 3 := by omega
      have q0 := wr64 (4 * (k : Int)) (by omega) (by omega)
      have q1 := wr64 (4 * (k : Int) + 1) (by omega) (by omega)
      have q2 := wr64 (4 * (k : Int) + 2) (by omega) (by omega)
      have q3 := wr64 (4 * (k : Int) + 3) (by omega) (by omega)
      obtain ⟨p0a, p0b⟩ := idx_ok (4 * (k : Int)) 64 (by omega) (by omega)
      obtain ⟨p1a, p1b⟩ := idx_ok (4 * (k : Int) + 1) 64 (by omega) (by omega)
      obtain ⟨p2a, p2b⟩ := idx_ok (4 * (k : Int) + 2) 64 (by omega) (by omega)
      obtain ⟨p3a, p3b⟩ := idx_ok (4 * (k : Int) + 3) 64 (by omega) (by omega)
      have p4 : ((k : Int) < 64) = True := eq_true (by omega)
      have p5 : (k < 64) = True := eq_true (by omega)
      simp only [List.take_succ_cons, List.take_zero, List.drop_succ_cons, List.drop_zero]
      repeat still_step
      refine wpStill_nil ?_
      go_wp2
      refine ⟨⟨k + 1, _, hlt1, by simp, HS.out.setw k _, ⟨?_⟩⟩, ?_⟩
      · rw [← hf.out, show 16 - k = 16 - (k + 1) + 1 by omega, fillW]; rfl
      · simp [intOf]; omega
    · obtain rfl : k = 16 := by omega
      have hw0 : ws = fillW bs 16 0 (List.replicate 64 0) := hf.out
      rw [hw0] at hst
      clear hf hlt1 hk' hw0
      go_wp2
      go_loopw [8] (fun v wr => ∃ (k : Nat) (ws : List Int), k ≤ 64 ∧ 16 ≤ k ∧ v = .int .i64 k ∧ Sb w wr gh gw hs ws ∧ Aside0 (extW (64 - k) k ws = extW 48 16 (fillW bs 16 0 (List.replicate 64 0)))) (fun v _ => 64 - (intOf v).toNat)
      case atStart => exact ⟨16, _, by omega, by omega, rfl, hst, ⟨rfl⟩⟩
      case round =>
        clear hst
        obtain ⟨k, ws, hk', hk6, rfl, hst, hf⟩ := hrel
        by_cases hlt1 : k < 64
        · have HS := Aside0.mk hst
          have d0 := hst.cw (k - 15) (by omega)
          have d1 := hst.cw (k - 2) (by omega)
          have q0 := wr64 ((k : Int) - 15) (by omega) (by omega)
          have q1 := wr64 ((k : Int) - 2) (by omega) (by omega)
          have e0 : ((k : Int) - 15).toNat = k - 15 := by omega
          have e1 : ((k : Int) - 2).toNat = k - 2 := by omega
          have p0 : (0 ≤ (k : Int) - 15) = True := eq_true (by omega)
          have p1 : (0 ≤ (k : Int) - 2) = True := eq_true (by omega)
          have p2 : ((k : Int) - 15 < 64) = True := eq_true (by omega)
          have p3 : ((k : Int) - 2 < 64) = True := eq_true (by omega)
          have p4 : (15 ≤ (k : Int)) = True := eq_true (by omega)
          have p5 : (2 ≤ (k : Int)) = True := eq_true (by omega)
          have p6 : (k - 15 < 64) = True := eq_true (by omega)
          have p7 : (k - 2 < 64) = True := eq_true (by omega)
          clear hst
          go_wp2
          refine wp_region_still_tail 32 (by kernel_rfl) (by kernel_rfl) ?_
          clear d0 d1 q0 q1 e0 e1 p0 p1 p2 p3 p4 p5 p6 p7
          have hst1 := HS.out.drewN 1
          generalize hwd : ({ wr with drawn := wr.drawn + 1 } : World) = wd
          have hst2 : Sb w wd gh gw hs ws := hwd ▸ hst1
          clear hst1 hwd
          have HS := Aside0.mk hst2
          have d0 := hst2.cw (k - 16) (by omega)
          have d1 := hst2.cw (k - 7) (by omega)
          have d2 := hst2.cw k (by omega)
          have fw := blk_frozen hst2.wd k
          have q0 := wr64 ((k : Int) - 16) (by omega) (by omega)
          have q1 := wr64 ((k : Int) - 7) (by omega) (by omega)
          have e0 : ((k : Int) - 16).toNat = k - 16 := by omega
          have e1 : ((k : Int) - 7).toNat = k - 7 := by omega
          have p0 : (0 ≤ (k : Int) - 16) = True := eq_true (by omega)
          have p1 : (0 ≤ (k : Int) - 7) = True := eq_true (by omega)
          have p2 : ((k : Int) - 16 < 64) = True := eq_true (by omega)
          have p3 : ((k : Int) - 7 < 64) = True := eq_true (by omega)
          have p4 : (16 ≤ (k : Int)) = True := eq_true (by omega)
          have p5 : (7 ≤ (k : Int)) = True := eq_true (by omega)
          have p6 : (k - 16 < 64) = True := eq_true (by omega)
          have p7 : (k - 7 < 64) = True := eq_true (by omega)
          have p8 : ((k : Int) < 64) = True := eq_true (by omega)
          have p9 : (k < 64) = True := eq_true (by omega)
          clear hst2
          simp only [List.take_succ_cons, List.take_zero, List.drop_succ_cons, List.drop_zero]
          repeat still_step
          still_call (turnS_calls _ 7 wd (by omega) (by omega))
          repeat still_step
          still_call (turnS_calls _ 18 wd (by omega) (by omega))
          repeat still_step
          still_call (turnS_calls _ 17 wd (by omega) (by omega))
          repeat still_step
          still_call (turnS_calls _ 19 wd (by omega) (by omega))
          repeat still_step
          refine wpStill_nil ?_
          go_wp2
          refine ⟨⟨_, _, _, _, _, _, _, _, _, _, _, _, _, _, _, _, _, _, _, _, _, _, _, _, _, _, _, _, _, _, _, _, _, _, _, _, _, _, _, _, _, _, _, _, _, _, _, _, _, ?rel, rfl⟩, ?measure⟩
          case rel =>
            refine ⟨k + 1, _, by omega, by omega, by simp, HS.out.setw k _, ⟨?_⟩⟩
            rw [← hf.out, show 64 - k = 64 - (k + 1) + 1 by omega, extW]
            rfl
          case measure => simp [intOf]; omega
        · obtain rfl : k = 64 := by omega
          have hw1 := Aside0.mk (show ws = extW 48 16 (fillW bs 16 0 (List.replicate 64 0)) from hf.out)
          clear hf hlt1 hk' hk6
          have HS := Aside0.mk hst
          clear hst
          go_wp2_with (first | ((with_reducible refine gate_dst (N := 107) rfl ?_); at_builtin; refine halt_ ?_))
          refine ⟨?_⟩
          have hes : (Tryd.prog.info? 64).map (fun i => (i.zero, i.size, i.bytes)) = some (some (.int .u32 0), 1, 4) := by kernel_rfl
          obtain ⟨i0, hi, hzz⟩ := Option.map_eq_some_iff.1 hes
          simp only [Prod.mk.injEq] at hzz
          obtain ⟨hz0, hz1, hz2⟩ := hzz
          have hne0 := heap_new wr (.cells #[] 64)
          refine wpList_append_own (w := wr.alloc (.cells #[] 64)) rfl (.tmp 105) (.tmp 106) 65 rfl wr.heap.size 64 i0 (.int .u32 0) 1 4 Tryd.underlying65 hi hz0 hz1 hz2 rfl (by omega) (.slice (some ⟨wr.heap.size, 0, none⟩) 0 0) 0 [] rfl
            ⟨rfl, .inr ⟨wr.heap.size, 0, #[], rfl, Nat.le_refl _, hne0, Nat.le_refl _, Nat.zero_le _, rfl, rfl⟩⟩ ⟨gh, 0, none⟩ 8 8 (enc32 hs) rfl (by simp [enc32, hl]) (enc_cells (HS.out.alloc _).h) (enc_one hs) (by decide) (by decide) (by simp) ?_
          intro v1 w1 ho1 hg1 _
          have hb1 := own_form8 ho1 (by simp [enc32, hl])
          obtain ⟨gv, cv, rfl, hgv, hcv⟩ := hb1
          have hgn : gv ≠ gh := by have := HS.out.g.size; have := HS.out.lt; omega
          have hs1 := Sb.grown (b := wr.heap.size) (HS.out.alloc _) hg1 (by have := HS.out.g.size; have := HS.out.lt; omega) (blk_lt HS.out.wd)
          have HCV := Aside0.mk hcv
          have HS1 := Aside0.mk hs1
          clear HS ho1 hg1 hne0 hcv hs1 hi hz0 hz1 hz2 hes
          go_wp2
          go_loopw [11, 12] (fun v11 v wr => ∃ (k : Nat) (av : List Int) (gv cv : Nat), k ≤ 64 ∧ v = .int .i64 k ∧ v11 = .slice (some ⟨gv, 0, none⟩) 8 cv ∧ gv ≠ gh ∧ (∀ i, i < 8 → wr.cell? ⟨gv, i, none⟩ = some (.int .u32 (nth av i))) ∧ av.length = 8 ∧ Sb w wr gh gw hs ws ∧ Aside0 (roundsA (64 - k) k ws av = roundsA 64 0 ws hs)) (fun _ v _ => 64 - (intOf v).toNat)
          case atStart => exact ⟨0, hs, gv, cv, by omega, rfl, rfl, hgn, HCV.out, hl, HS1.out, ⟨rfl⟩⟩
          case round =>
            clear HCV HS1
            clear hgn hgv
            obtain ⟨k, av, gv, cv, hk', rfl, rfl, hgn, hcv, hal, hst, hf⟩ := hrel
            by_cases hlt1 : k < 64
            · have HS := Aside0.mk hst
              have HCV := Aside0.mk hcv
              have c0 := hcv 0 (by omega)
              have c1 := hcv 1 (by omega)
              have c2 := hcv 2 (by omega)
              have c3 := hcv 3 (by omega)
              have c4 := hcv 4 (by omega)
              have c5 := hcv 5 (by omega)
              have c6 := hcv 6 (by omega)
              have c7 := hcv 7 (by omega)
              have cw := hst.cw k hlt1
              have ck := hst.old hkl hkne (hk k hlt1)
              have p8 : ((k : Int) < 64) = True := eq_true (by omega)
              have p9 : (k < 64) = True := eq_true (by omega)
              clear hst hcv
              go_wp2
              go_quiet (exact Calls.quiet_of ((turnS_calls _ _ _ (by omega) (by omega)).mono (fun e w' h => ⟨h.1, 0, h.2⟩)))
              clear c0 c1 c2 c3 c4 c5 c6 c7 cw ck p8 p9
              replace HS := Aside0.mk (HS.out.drewN nq)
              have hcv := HCV.out
              replace HCV : Aside0 (∀ i, i < 8 → (wr.drewN nq).cell? ⟨gv, i, none⟩ = some (.int .u32 (nth av i))) := ⟨hcv⟩
              generalize wr.drewN nq = wr2 at HS HCV ⊢
              clear hcv
              have hcv := HCV.out
              have c0 := hcv 0 (by omega)
              have c1 := hcv 1 (by omega)
              have c2 := hcv 2 (by omega)
              have c3 := hcv 3 (by omega)
              have c4 := hcv 4 (by omega)
              have c5 := hcv 5 (by omega)
              have c6 := hcv 6 (by omega)
              have c7 := hcv 7 (by omega)
              clear hcv
              go_wp2
              go_quiet (exact Calls.quiet_of ((turnS_calls _ _ _ (by omega) (by omega)).mono (fun e w' h => ⟨h.1, 0, h.2⟩)))
              clear c0 c1 c2 c3 c4 c5 c6 c7
              replace HS := Aside0.mk (HS.out.drewN nq)
              have hcv := HCV.out
              replace HCV : Aside0 (∀ i, i < 8 → (wr2.drewN nq).cell? ⟨gv, i, none⟩ = some (.int .u32 (nth av i))) := ⟨hcv⟩
              generalize wr2.drewN nq = wr3 at HS HCV ⊢
              clear hcv
              go_wp2
              refine wp_region_still_tail 26 (by kernel_rfl) (by kernel_rfl) ?_
              replace HS := Aside0.mk (HS.out.drewN 1)
              have hcv := HCV.out
              replace HCV : Aside0 (∀ i, i < 8 → (wr3.drewN 1).cell? ⟨gv, i, none⟩ = some (.int .u32 (nth av i))) := ⟨hcv⟩
              rw [show ({ wr3 with drawn := wr3.drawn + 1 } : World) = wr3.drewN 1 from rfl]
              generalize wr3.drewN 1 = wr4 at HS HCV ⊢
              clear hcv
              have hcv := HCV.out
              have c0 := hcv 0 (by omega)
              have c1 := hcv 1 (by omega)
              have c2 := hcv 2 (by omega)
              have c3 := hcv 3 (by omega)
              have c4 := hcv 4 (by omega)
              have c5 := hcv 5 (by omega)
              have c6 := hcv 6 (by omega)
              have c7 := hcv 7 (by omega)
              clear hcv
              simp only [List.take_succ_cons, List.take_zero, List.drop_succ_cons, List.drop_zero]
              repeat still_step
              refine wpStill_nil ?_
              clear c0 c1 c2 c3 c4 c5 c6 c7
              go_wp2
              refine ⟨⟨k + 1, _, wr4.heap.size, 8, by omega, by simp, rfl, by have := HS.out.g.size; have := HS.out.lt; omega, new8 wr4 _ _ _ _ _ _ _ _ _, rfl, HS.out.alloc _, ⟨?_⟩⟩, by simp [intOf]; omega⟩
              rw [← hf.out, show 64 - k = 64 - (k + 1) + 1 by omega, roundsA, ch_eq]
              rfl
            · obtain rfl : k = 64 := by omega
              have hw2 := Aside0.mk (show av = roundsA 64 0 ws hs from hf.out)
              clear hf hlt1 hk'
              go_wp2
              have HCV := Aside0.mk hcv
              go_loopw [17] (fun v wr => ∃ (k : Nat) (hv : List Int), k ≤ 8 ∧ v = .int .i64 k ∧ (∀ i, i < 8 → wr.cell? ⟨gv, i, none⟩ = some (.int .u32 (nth av i))) ∧ Sb w wr gh gw hv ws ∧ Aside0 (addH (8 - k) k hv av = addH 8 0 hs av)) (fun v _ => 8 - (intOf v).toNat)
              case atStart => exact ⟨0, hs, by omega, rfl, HCV.out, hst, ⟨rfl⟩⟩
              case round =>
                clear hst hcv HCV
                obtain ⟨k, hv, hk', rfl, hcv, hst, hf⟩ := hrel
                by_cases hlt1 : k < 8
                · go_wp2
                  refine wp_region_still_tail 10 (by kernel_rfl) (by kernel_rfl) ?_
                  have HS := Aside0.mk (hst.drewN 1)
                  have HCV : Aside0 (∀ i, i < 8 → (wr.drewN 1).cell? ⟨gv, i, none⟩ = some (.int .u32 (nth av i))) := ⟨hcv⟩
                  rw [show ({ wr with drawn := wr.drawn + 1 } : World) = wr.drewN 1 from rfl]
                  generalize wr.drewN 1 = wd at HS HCV ⊢
                  clear hst hcv
                  have d0 := HS.out.ch k (by omega)
                  have d1 := HCV.out k (by omega)
                  have fw := blk_frozen HS.out.h k
                  have p8 : ((k : Int) < 8) = True := eq_true (by omega)
                  have p9 : (k < 8) = True := eq_true (by omega)
                  simp only [List.take_succ_cons, List.take_zero, List.drop_succ_cons, List.drop_zero]
                  repeat still_step
                  refine wpStill_nil ?_
                  go_wp2
                  refine ⟨⟨_, _, _, _, _, _, _, _, _, _, _, _, _, _, _, ?rel, rfl⟩, ?measure⟩
                  case rel =>
                    refine ⟨k + 1, _, by omega, by simp, fun i hi => (cell_far (by exact hgn) _).trans (HCV.out i hi), HS.out.seth k _, ⟨?_⟩⟩
                    rw [← hf.out, show 8 - k = 8 - (k + 1) + 1 by omega, addH]
                  case measure => simp [intOf]; omega
                · obtain rfl : k = 8 := by omega
                  have hw3 := Aside0.mk (show hv = addH 8 0 hs av from hf.out)
                  clear hf hlt1 hk'
                  have HS := Aside0.mk hst
                  clear hst
                  go_wp2
                  go_end0
                  refine ⟨rfl, HS.out.g, ?_⟩
                  have e2 : shaBlock hs bs = hv := by rw [hw3.out, hw2.out, hw1.out]; rfl
                  rw [e2]
                  exact HS.out.h
end Go.Proofs.YtjkanhjapddhnaaDoor.Sha
