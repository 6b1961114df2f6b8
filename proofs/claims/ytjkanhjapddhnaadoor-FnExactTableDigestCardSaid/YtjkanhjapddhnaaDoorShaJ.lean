/- The given program's own hash of a text, walked: what it returns is sha of the text; no condition. -/
import Derived.Test.YtjkanhjapddhnaaDoorShaI
import Derived.Test.YtjkanhjapddhnaaDoorMarks
import Derived.Test.YtjkanhjapddhnaaDoorPNumx1
namespace Go.Proofs.YtjkanhjapddhnaaDoor.Sha
open Go.RowKit Go.Proofs.YtjkanhjapddhnaaDoorV.PrintWords Go.Proofs.YtjkanhjapddhnaaDoorV.PrintMore Go.Lib
set_option linter.unusedVariables false
set_option maxHeartbeats 4000000
set_option maxRecDepth 100000
def num (x : Int) : Nat → List Int → List Int
  | 0, l => l
  | k + 1, l => num (x / 256) k (l.set k (x % 256))
theorem num_l0 (k : Nat) : ∀ (x : Int) (l : List Int) (j : Nat), k ≤ l.length → l.length ≤ 281474976710656 → Go.Proofs.YtjkanhjapddhnaaDoor.PNum.impl_number.l0 (k + 1 + j) x l ((k : Int) - 1) = some (strOfNums (num x k l)) := by
  induction k with
  | zero => intro x l j _ _; rw [show 0 + 1 + j = j + 1 by omega, Go.Proofs.YtjkanhjapddhnaaDoor.PNum.impl_number.l0, if_neg (by omega)]; rfl
  | succ k ih =>
    intro x l j hk hl
    rw [show k + 1 + 1 + j = (k + 1 + j) + 1 by omega, Go.Proofs.YtjkanhjapddhnaaDoor.PNum.impl_number.l0, if_pos (by omega), if_pos (by omega), if_pos (by omega)]
    have h1 : wrap64 (((k + 1 : Nat) : Int) - 1 - 1) = (k : Int) - 1 := by rw [show ((k + 1 : Nat) : Int) - 1 - 1 = (k : Int) - 1 by omega]; unfold wrap64; omega
    have h2 : (((k + 1 : Nat) : Int) - 1).toNat = k := by omega
    rw [h1, h2, ih _ _ j (by rw [List.length_set]; omega) (by rw [List.length_set]; exact hl)]
    rfl
theorem num_of (n : Nat) (x : Int) (h0 : n ≤ 281474976710656) : ∃ k, Go.Proofs.YtjkanhjapddhnaaDoor.PNum.impl_number.f k x n = some (strOfNums (num x n (List.replicate n 0))) := by
  refine ⟨n + 1, ?_⟩
  have h1 : wrap64 ((n : Int) - 1) = (n : Int) - 1 := by unfold wrap64; omega
  rw [Go.Proofs.YtjkanhjapddhnaaDoor.PNum.impl_number.f, if_pos (by omega), if_pos (by omega), h1, Int.toNat_natCast]
  exact num_l0 n x _ 0 (by simp) (by simp; exact h0)
theorem num_length (k : Nat) : ∀ (x : Int) (l : List Int), (num x k l).length = l.length := by
  induction k with
  | zero => intro x l; rfl
  | succ k ih => intro x l; rw [num, ih, List.length_set]
theorem num_size (n : Nat) (x : Int) : (strOfNums (num x n (List.replicate n 0))).size = n := by
  rw [strOfNums_size, num_length, List.length_replicate]
/-- So many noughts follow. -/
def padN (n : Nat) : Nat := (120 - n % 64) % 64
/-- The bytes that the hash goes over. -/
def padI (t : ByteArray) : List Int := bytesOf t ++ [128] ++ List.replicate (padN (t.size + 1)) 0 ++ bytesOf (strOfNums (num (8 * (t.size : Int)) 8 (List.replicate 8 0)))
def sha0 : List Int := [1779033703, 3144134277, 1013904242, 2773480762, 1359893119, 2600822924, 528734635, 1541459225]
def blocks : Nat → Nat → List Int → List Int → List Int
  | 0, _, hv, _ => hv
  | n + 1, i, hv, xs => blocks n (i + 1) (shaBlock hv ((xs.drop (64 * i)).take 64)) xs
/-- The first k words, written. -/
def outs (hv : List Int) : Nat → ByteArray
  | 0 => ⟨#[]⟩
  | k + 1 => outs hv k ++ strOfNums (num (wrap64 (nth hv k)) 4 (List.replicate 4 0))
def sha (t : ByteArray) : ByteArray := outs (blocks ((padI t).length / 64) 0 sha0 (padI t)) 8
theorem glob_below {w w1 : World} (h : GlobA w) (hb : Below w.heap.size w w1) : GlobA w1 := fun i hi => (hb.cell (glob_lt h)).trans (h i hi)
theorem addH_length : ∀ (n k : Nat) (hv av : List Int), (addH n k hv av).length = hv.length
  | 0, _, _, _ => rfl
  | n + 1, k, hv, av => by rw [addH, addH_length n, List.length_set]
theorem block_length (hv bs : List Int) (h : hv.length = 8) : (shaBlock hv bs).length = 8 := by rw [shaBlock, addH_length, h]
theorem pad_cells {w : World} {base : Nat} {e : TypeId} {g c n : Nat} {xs : List Int} (h : OwnM w base e (.slice (some ⟨g, 0, none⟩) n c) (encs (Value.int .u8) xs)) (i : Nat) (hi : 64 * i + 64 ≤ xs.length) :
    ∀ j, j < 64 → w.cell? ⟨g, 64 * i + j, none⟩ = some (.int .u8 (nth ((xs.drop (64 * i)).take 64) j)) := by
  intro j hj
  refine OwnM.cells h (64 * i + j) _ ?_
  have h1 : 64 * i + j < xs.length := by omega
  simp [encs, nth, hj, h1]
section
variable {W : World} {gh t : Nat} {hv : List Int}
theorem set1_heap (h : W.heap[gh]? = some (.cells (enc32 hv).toArray t (0, 0))) (i : Nat) (x : Int) : (W.setCell ⟨gh, i, none⟩ (.int .u32 x)).heap[gh]? = some (.cells (enc32 (hv.set i x)).toArray t (0, 0)) := by
  rw [blk_set h, enc_set]
theorem set8_heap (h : W.heap[gh]? = some (.cells (enc32 hv).toArray t (0, 0))) (hl : hv.length = 8) (x0 x1 x2 x3 x4 x5 x6 x7 : Int) : ((((((((W.setCell ⟨gh, 0, none⟩ (.int .u32 x0)).setCell ⟨gh, 1, none⟩ (.int .u32 x1)).setCell ⟨gh, 2, none⟩ (.int .u32 x2)).setCell ⟨gh, 3, none⟩ (.int .u32 x3)).setCell ⟨gh, 4, none⟩ (.int .u32 x4)).setCell ⟨gh, 5, none⟩ (.int .u32 x5)).setCell ⟨gh, 6, none⟩ (.int .u32 x6)).setCell ⟨gh, 7, none⟩ (.int .u32 x7)).heap[gh]? = some (.cells (enc32 [x0, x1, x2, x3, x4, x5, x6, x7]).toArray t (0, 0)) := by
  have h8 := set1_heap (set1_heap (set1_heap (set1_heap (set1_heap (set1_heap (set1_heap (set1_heap h 0 x0) 1 x1) 2 x2) 3 x3) 4 x4) 5 x5) 6 x6) 7 x7
  rw [eight hv hl] at h8
  exact h8
theorem set8_old (W : World) (gh : Nat) (x0 x1 x2 x3 x4 x5 x6 x7 : Int) (k : Nat) (hk : k ≠ gh) : ((((((((W.setCell ⟨gh, 0, none⟩ (.int .u32 x0)).setCell ⟨gh, 1, none⟩ (.int .u32 x1)).setCell ⟨gh, 2, none⟩ (.int .u32 x2)).setCell ⟨gh, 3, none⟩ (.int .u32 x3)).setCell ⟨gh, 4, none⟩ (.int .u32 x4)).setCell ⟨gh, 5, none⟩ (.int .u32 x5)).setCell ⟨gh, 6, none⟩ (.int .u32 x6)).setCell ⟨gh, 7, none⟩ (.int .u32 x7)).heap[k]? = W.heap[k]? := by
  repeat rw [Below.heap_setCell _ _ _ _ (by simpa using hk)]
theorem set8_below {w : World} (h : Below w.heap.size w W) (hg : w.heap.size ≤ gh) (x0 x1 x2 x3 x4 x5 x6 x7 : Int) : Below w.heap.size w ((((((((W.setCell ⟨gh, 0, none⟩ (.int .u32 x0)).setCell ⟨gh, 1, none⟩ (.int .u32 x1)).setCell ⟨gh, 2, none⟩ (.int .u32 x2)).setCell ⟨gh, 3, none⟩ (.int .u32 x3)).setCell ⟨gh, 4, none⟩ (.int .u32 x4)).setCell ⟨gh, 5, none⟩ (.int .u32 x5)).setCell ⟨gh, 6, none⟩ (.int .u32 x6)).setCell ⟨gh, 7, none⟩ (.int .u32 x7)) :=
  (((((((h.setCell (by simpa using hg) _).setCell (by simpa using hg) _).setCell (by simpa using hg) _).setCell (by simpa using hg) _).setCell (by simpa using hg) _).setCell (by simpa using hg) _).setCell (by simpa using hg) _).setCell (by simpa using hg) _
end
theorem run_index_arr {P : Program} (t e : TypeId) (n : Nat) (ht : P.underlying t = some (.array n e)) (he : P.underlying e = some (.int .u32)) (hs : (P.info? e).map (·.size) = some 1) (cs : Array Value) (k : Nat) (v : Value) (hk : k < n) (hv : cs[k]? = some v) (w : World) :
    (Instr.index t (.agg cs) (.int .i64 k)).run P w = .ok v w := by
  obtain ⟨i, hi, hi2⟩ := Option.map_eq_some_iff.1 hs
  simp [Instr.index, run_underlying ht, asIntOf, part, isAgg, run_underlying he, sizeOf, typeInfo, hi, hi2, hk, hv]
theorem own_alloc {W : World} {base : Nat} {e : TypeId} {v : Value} {xs : List Value} (h : OwnM W base e v xs) (o : Obj) : OwnM (W.alloc o) base e v xs :=
  h.kept (fun k hk => Below.heap_alloc _ _ _ (h.lt k hk).2)
def lenOf : Value → Nat
  | .slice _ n _ => n
  | _ => 0
theorem own_form {w : World} {base : Nat} {e : TypeId} {v : Value} {xs : List Value} (h : OwnM w base e v xs) (n : Nat) (hn : xs.length = n) (h0 : 0 < n) : ∃ g cap, v = .slice (some ⟨g, 0, none⟩) n cap := by
  rcases h with ⟨_, h⟩ | ⟨g, cap, _, _, h, _⟩
  · subst h; simp at hn; omega
  · exact ⟨g, cap, by rw [h, hn]⟩
theorem halt_ {G : Prop} (h : Aside0 G) : G := h.out
theorem new_cell (W : World) (x : Value) (e : TypeId) : ∀ j u, [x][j]? = some u → (W.alloc (.cells #[x] e)).cell? ((⟨W.heap.size, 0, none⟩ : Addr).add j) = some u := by
  intro j u hj
  rw [Go.WideShapes.add_plain, Nat.zero_add]
  match j, hj with
  | 0, hj =>
    have := heap_new W (.cells #[x] e)
    simp only [World.cell?, this]
    simpa using hj
  | j + 1, hj => simp at hj
theorem pad_step (t : ByteArray) (m : Nat) (hm : m ≤ padN (t.size + 1)) : ((((t.size + 1 + m : Nat) : Int) % 64 = 56) ↔ m = padN (t.size + 1)) := by
  unfold padN at hm ⊢
  omega
theorem outs_size (hv : List Int) : ∀ k, (outs hv k).size = 4 * k
  | 0 => rfl
  | k + 1 => by rw [outs, ByteArray.size_append, outs_size hv k, num_size]; omega
set_option maxHeartbeats 1000000 in
theorem hash_calls (t : ByteArray) (w : World) (hG : GlobA w) (hs : t.size ≤ 1099511627776) :
    Calls Tryd.prog 17 #[.string t] w fun e w' => e = .returned (.string (sha t)) ∧ Below w.heap.size w w' := by
  have hcv := Aside0.mk (own_alloc (OwnM.conv w 5 t (by omega)) (.cells #[.int .u8 128] 5))
  have hb0 := Aside0.mk ((bytes_below (Below.refl w.heap.size w) (Nat.le_refl _) 5 t).alloc (by rw [bytesWorld_size]; omega) (.cells #[.int .u8 128] 5))
  have hG0 := Aside0.mk hG
  have hcl := strCells_length t
  clear hG
  go_enter Tryd.func17, Tryd.ntmps17
  have kb := fun W => print_bytes (P := Tryd.prog) 9 40 5 Tryd.underlying9 Tryd.underlying40 Tryd.underlying5 t W
  go_wp2_with (first | ((with_reducible refine gate_dst (N := 11) rfl ?_); at_builtin; refine halt_ ?_))
  refine ⟨?_⟩
  refine M_append (w0 := w) w.heap.size rfl (.tmp 9) (.tmp 10) 40 5 (.int .u8 0) rfl Tryd.underlying40 (by kernel_rfl) rfl _ (strCells t) _ 1 1 [.int .u8 128] rfl rfl rfl (new_cell _ _ _) (by simp [Value.oneCell']) hcv.out hb0.out (hb0.out.size) (by rw [hcl]; omega) ?_
  intro v1 w1 ho1 hb1 hg1
  have hlc : (strCells t ++ [Value.int .u8 128]).length = t.size + 1 := by simp [hcl]
  have hlt1 := hb1.size
  generalize hxs : strCells t ++ [Value.int .u8 128] = x1 at ho1 hlc
  obtain ⟨g1, cap1, rfl⟩ := own_form ho1 _ hlc (by omega)
  have HO := Aside0.mk ho1
  have HB := Aside0.mk hb1
  have hx1 := Aside0.mk hxs
  have hl1 := Aside0.mk hlc
  clear ho1 hb1 hg1 hcv hb0 hxs hlc hlt1 kb
  go_wp2
  go_loopw [3] (fun v wr => ∃ (m L g cap : Nat), m ≤ padN (t.size + 1) ∧ L = t.size + 1 + m ∧ v = .slice (some ⟨g, 0, none⟩) L cap ∧ OwnM wr w.heap.size 5 v (x1 ++ List.replicate m (.int .u8 0)) ∧ Below w.heap.size w wr) (fun v _ => padN (t.size + 1) + t.size + 1 - lenOf v)
  case atStart => exact ⟨0, t.size + 1, g1, cap1, Nat.zero_le _, rfl, rfl, by simpa using HO.out, HB.out⟩
  case round =>
    clear HO HB
    obtain ⟨m, L, g, cap, hm, hL, rfl, ho, hb⟩ := hrel
    have HO := Aside0.mk ho
    have HB := Aside0.mk hb
    have HL := Aside0.mk hL
    have hiff := pad_step t m hm
    rw [← hL] at hiff
    clear ho hb hL
    by_cases hq : m = padN (t.size + 1)
    · have hq1 : ((L : Int) % 64 != 56) = false := by rw [hiff.2 hq]; rfl
      clear hiff
      obtain ⟨kN, hN⟩ : ∃ k, Go.Proofs.YtjkanhjapddhnaaDoor.PNum.impl_number.f k (8 * (t.size : Int)) 8 = some (strOfNums (num (8 * (t.size : Int)) 8 (List.replicate 8 0))) := num_of 8 _ (by omega)
      have hnb : (strOfNums (num (8 * (t.size : Int)) 8 (List.replicate 8 0))).size = 8 := num_size 8 _
      generalize hnq : strOfNums (num (8 * (t.size : Int)) 8 (List.replicate 8 0)) = nb at hN hnb
      have hNQ := Aside0.mk hnq
      have hw8 := wr64 (8 * (t.size : Int)) (by omega) (by omega)
      clear hnq
      go_wp2_with (first | (go_at_call 33; refine (Go.Proofs.YtjkanhjapddhnaaDoor.PNum.impl_number.calls kN _ _ _ _ hN).mono ?_; rintro e w2 ⟨rfl, hbn⟩) | ((with_reducible refine gate_dst (N := 24) rfl ?_); at_builtin; refine halt_ ?_))
      refine ⟨?_⟩
      have HO2 := Aside0.mk (OwnM.below HO.out hbn)
      have HB2 := Aside0.mk (below_step HB.out hbn)
      clear HO HB hbn
      refine M_append_str (w0 := w) w.heap.size rfl (.tmp 19) (.tmp 23) 40 9 5 rfl Tryd.underlying40 Tryd.underlying9 (by kernel_rfl) (.slice (some ⟨g, 0, none⟩) L cap) (x1 ++ List.replicate m (.int .u8 0)) nb rfl rfl HO2.out HB2.out HB2.out.size (by have := HL.out; have := hl1.out; simp; unfold padN at hm; omega) ?_
      intro v3 w3 ho3 hb3 hg3
      clear HO2 HB2 hg3
      have hl3 : (x1 ++ List.replicate m (Value.int .u8 0) ++ strCells nb).length = L + 8 := by have := HL.out; have := hl1.out; simp [strCells_length]; omega
      obtain ⟨g3, cap3, rfl⟩ := own_form ho3 _ hl3 (by omega)
      have HO := Aside0.mk ho3
      have HB := Aside0.mk hb3
      have hL3 := Aside0.mk hl3
      clear ho3 hb3 hl3
      go_wp2
      have hxi : x1 ++ List.replicate m (Value.int .u8 0) ++ strCells nb = encs (Value.int .u8) (padI t) := by
        rw [← hx1.out, padI, hNQ.out, hq]
        simp [encs, bytesOf, strCells]
        rfl
      have hH := Aside0.mk (own_alloc HO.out (.cells #[.int .u32 1779033703, .int .u32 3144134277, .int .u32 1013904242, .int .u32 2773480762, .int .u32 1359893119, .int .u32 2600822924, .int .u32 528734635, .int .u32 1541459225] 77))
      rw [hxi] at hH
      have hhb := Aside0.mk (HB.out.alloc HB.out.size (.cells #[.int .u32 1779033703, .int .u32 3144134277, .int .u32 1013904242, .int .u32 2773480762, .int .u32 1359893119, .int .u32 2600822924, .int .u32 528734635, .int .u32 1541459225] 77))
      have hhh := Aside0.mk (heap_new w3 (.cells #[.int .u32 1779033703, .int .u32 3144134277, .int .u32 1013904242, .int .u32 2773480762, .int .u32 1359893119, .int .u32 2600822924, .int .u32 528734635, .int .u32 1541459225] 77))
      have hgh := Aside0.mk ((HO.out.lt g3 rfl).2)
      have hgw := Aside0.mk HB.out.size
      generalize (w3.alloc (.cells #[.int .u32 1779033703, .int .u32 3144134277, .int .u32 1013904242, .int .u32 2773480762, .int .u32 1359893119, .int .u32 2600822924, .int .u32 528734635, .int .u32 1541459225] 77)) = w4 at hH hhb hhh ⊢
      clear HO HB hxi
      generalize w3.heap.size = gh at hhh hgh hgw ⊢
      have hcap : L + 8 ≤ cap3 ∧ (L + 8) % 64 = 0 ∧ (encs (Value.int .u8) (padI t)).length = L + 8 := by
        refine ⟨?_, ?_, ?_⟩
        · rcases hH.out with ⟨h, _⟩ | ⟨g', cap', cur, fz, h, _, _, _, h1, _⟩
          · cases h
          · injection h with _ h2 h3
            omega
        · have := HL.out; unfold padN at hq; omega
        · rcases hH.out with ⟨h, _⟩ | ⟨g', cap', cur, fz, h, _, _, _, h1, _⟩
          · cases h
          · injection h with _ h2 h3
            exact h2.symm
      have hC := Aside0.mk hcap
      clear hcap
      go_loopw [3] (fun v wr => ∃ (i li ci : Nat) (hv : List Int) (A : Addr), 64 * i + li = L + 8 ∧ 64 * i + ci = cap3 ∧ v = .slice (some A) li ci ∧ (0 < li → A = ⟨g3, 64 * i, none⟩) ∧ wr.heap[gh]? = some (.cells (enc32 hv).toArray 77 (0, 0)) ∧ hv.length = 8 ∧ OwnM wr w.heap.size 5 (.slice (some ⟨g3, 0, none⟩) (L + 8) cap3) (encs (Value.int .u8) (padI t)) ∧ Below w.heap.size w wr ∧ Aside0 (blocks ((L + 8) / 64 - i) i hv (padI t) = blocks ((L + 8) / 64) 0 sha0 (padI t))) (fun v _ => lenOf v)
      case atStart => exact ⟨0, L + 8, cap3, sha0, _, by omega, by omega, rfl, fun _ => rfl, hhh.out, rfl, hH.out, hhb.out, ⟨rfl⟩⟩
      case round =>
        clear hH hhb hhh
        obtain ⟨i, li, ci, hv, A, hli, hci, rfl, hA, hh, hhl, ho, hb, hf⟩ := hrel
        have HO := Aside0.mk ho
        have HB := Aside0.mk hb
        have HH := Aside0.mk hh
        clear ho hb hh
        by_cases hz : li = 0
        · subst hz
          have c0 := (blk_cell HH.out 0).trans (enc_get hv 0 (by omega))
          have c1 := (blk_cell HH.out 1).trans (enc_get hv 1 (by omega))
          have c2 := (blk_cell HH.out 2).trans (enc_get hv 2 (by omega))
          have c3 := (blk_cell HH.out 3).trans (enc_get hv 3 (by omega))
          have c4 := (blk_cell HH.out 4).trans (enc_get hv 4 (by omega))
          have c5 := (blk_cell HH.out 5).trans (enc_get hv 5 (by omega))
          have c6 := (blk_cell HH.out 6).trans (enc_get hv 6 (by omega))
          have c7 := (blk_cell HH.out 7).trans (enc_get hv 7 (by omega))
          go_wp2
          rw [show (#[Value.int .u32 (nth hv 0), Value.int .u32 (nth hv 1), Value.int .u32 (nth hv 2), Value.int .u32 (nth hv 3), Value.int .u32 (nth hv 4), Value.int .u32 (nth hv 5), Value.int .u32 (nth hv 6), Value.int .u32 (nth hv 7)] : Array Value) = (enc32 hv).toArray from (congrArg (fun l => (enc32 l).toArray) (eight hv hhl)).symm]
          clear c0 c1 c2 c3 c4 c5 c6 c7
          have hfin : outs hv 8 = sha t := by
            have e1 : (L + 8) / 64 - i = 0 := by omega
            have e2 := hf.out
            rw [e1, blocks] at e2
            have e3 : (padI t).length = L + 8 := by simpa [encs] using hC.out.2.2
            rw [sha, e3, ← e2]
          have HF := Aside0.mk hfin
          clear hfin
          have hsz8 : (enc32 hv).toArray.size = 8 := by simp [enc32, hhl]
          generalize hAg : (enc32 hv).toArray = AG at hsz8
          have HAG := Aside0.mk hAg
          clear hAg
          go_loopw [5, 36] (fun v5 v wr => ∃ (k : Nat), k ≤ 8 ∧ v = .int .i64 k ∧ v5 = .string (outs hv k) ∧ Below w.heap.size w wr) (fun _ v _ => 8 - (intOf v).toNat)
          case atStart => exact ⟨0, by omega, rfl, rfl, HB.out⟩
          case round =>
            clear HB HO HH
            obtain ⟨k, hk, rfl, rfl, hb⟩ := hrel
            have HB := Aside0.mk hb
            clear hb
            by_cases hlt : k < 8
            · have hidx : AG[k]? = some (.int .u32 (nth hv k)) := by rw [← HAG.out]; exact enc_get hv k (by omega)
              have p8 : ((k : Int) < 8) = True := eq_true (by omega)
              have p9 : (k < 8) = True := eq_true (by omega)
              obtain ⟨kM, hM⟩ : ∃ q, Go.Proofs.YtjkanhjapddhnaaDoor.PNum.impl_number.f q (wrap64 (nth hv k)) 4 = some (strOfNums (num (wrap64 (nth hv k)) 4 (List.replicate 4 0))) := num_of 4 _ (by omega)
              have hix := run_index_arr (P := Tryd.prog) 77 64 8 Tryd.underlying77 Tryd.underlying64 (by kernel_rfl) AG k _ hlt hidx wr
              go_wp2_with (first | (go_at_call 33; refine halt_ ?_))
              refine ⟨?_⟩
              refine (Go.Proofs.YtjkanhjapddhnaaDoor.PNum.impl_number.calls kM _ _ _ _ hM).mono ?_
              rintro e w2 ⟨rfl, hbn⟩
              have HB2 := Aside0.mk (below_step HB.out hbn)
              have hs4 : (strOfNums (num (wrap64 (nth hv k)) 4 (List.replicate 4 0))).size = 4 := num_size 4 _
              generalize hn4 : strOfNums (num (wrap64 (nth hv k)) 4 (List.replicate 4 0)) = n4 at hs4 ⊢
              have HN4 := Aside0.mk hn4
              have ho4 := outs_size hv k
              have hsa : ((outs hv k).size + n4.size ≤ 9223372036854775807) = True := eq_true (by omega)
              have hsb : (9223372036854775807 < (outs hv k).size + n4.size) = False := eq_false (by omega)
              have hsc : (9223372036854775807 < ((outs hv k).size : Int) + (n4.size : Int)) = False := eq_false (by omega)
              clear HB hbn hM hix hn4
              go_wp2
              refine ⟨⟨k + 1, by omega, by simp, ?_, HB2.out⟩, by simp [intOf]; omega⟩
              rw [outs, HN4.out]
            · obtain rfl : k = 8 := by omega
              go_wp2
              go_ret
              exact ⟨congrArg (fun x => Ending.returned (.string x)) HF.out, HB.out⟩
        · obtain rfl := hA (by omega)
          clear hA
          have hz1 : ((0 : Int) < (li : Int)) = True := eq_true (by omega)
          have hz2 : (0 < li) = True := eq_true (by omega)
          go_wp2
          refine wp_region_still_tail 3 (by kernel_rfl) (by kernel_rfl) ?_
          have HO2 := Aside0.mk (OwnM.kept (w' := { wr with drawn := wr.drawn + 1 }) HO.out (fun _ _ => rfl))
          have HB2 := Aside0.mk (show Below w.heap.size w ({ wr with drawn := wr.drawn + 1 } : World) from pw_below_drewN HB.out 1)
          have hh2 : ({ wr with drawn := wr.drawn + 1 } : World).heap[gh]? = some (.cells (enc32 hv).toArray 77 (0, 0)) := HH.out
          generalize ({ wr with drawn := wr.drawn + 1 } : World) = wd at HO2 HB2 hh2 ⊢
          clear HO HB HH
          have HH := Aside0.mk hh2
          have c0 := (blk_cell hh2 0).trans (enc_get hv 0 (by omega))
          have c1 := (blk_cell hh2 1).trans (enc_get hv 1 (by omega))
          have c2 := (blk_cell hh2 2).trans (enc_get hv 2 (by omega))
          have c3 := (blk_cell hh2 3).trans (enc_get hv 3 (by omega))
          have c4 := (blk_cell hh2 4).trans (enc_get hv 4 (by omega))
          have c5 := (blk_cell hh2 5).trans (enc_get hv 5 (by omega))
          have c6 := (blk_cell hh2 6).trans (enc_get hv 6 (by omega))
          have c7 := (blk_cell hh2 7).trans (enc_get hv 7 (by omega))
          have hm64 : 64 ≤ li := by have := hC.out.2.1; omega
          have p0 : (64 ≤ ci) = True := eq_true (by have := hC.out.1; omega)
          have p1 : ((64 : Int) ≤ (ci : Int)) = True := eq_true (by have := hC.out.1; omega)
          clear hh2
          simp only [List.take_succ_cons, List.take_zero, List.drop_succ_cons, List.drop_zero]
          repeat still_step
          refine wpStill_nil ?_
          clear c0 c1 c2 c3 c4 c5 c6 c7
          go_wp2_with (first | (go_at_call 34; refine halt_ ?_))
          refine ⟨?_⟩
          rw [show (#[Value.int .u32 (nth hv 0), Value.int .u32 (nth hv 1), Value.int .u32 (nth hv 2), Value.int .u32 (nth hv 3), Value.int .u32 (nth hv 4), Value.int .u32 (nth hv 5), Value.int .u32 (nth hv 6), Value.int .u32 (nth hv 7)] : Array Value) = (enc32 hv).toArray from (congrArg (fun l => (enc32 l).toArray) (eight hv hhl)).symm]
          refine (block_calls hv (((padI t).drop (64 * i)).take 64) g3 (64 * i) ci wd (glob_below hG0.out HB2.out) hhl (by have := hC.out.2.2; simp [encs] at this; simp; omega) (pad_cells HO2.out i (by have := hC.out.2.2; simp [encs] at this; omega)) (HO2.out.lt g3 rfl).2).mono ?_
          rintro e w5 ⟨rfl, hb5⟩
          have hX : (shaBlock hv (((padI t).drop (64 * i)).take 64)).length = 8 := block_length _ _ hhl
          have HO := Aside0.mk (OwnM.below HO2.out hb5)
          have HB := Aside0.mk (below_step HB2.out hb5)
          have hh5 := blk_below HH.out hb5
          have hfn : Aside0 (blocks ((L + 8) / 64 - (i + 1)) (i + 1) (shaBlock hv (((padI t).drop (64 * i)).take 64)) (padI t) = blocks ((L + 8) / 64) 0 sha0 (padI t)) := ⟨by
            rw [← hf.out, show (L + 8) / 64 - i = (L + 8) / 64 - (i + 1) + 1 by have := hC.out.2.1; omega, blocks]⟩
          clear HO2 HB2 HH hf hb5
          generalize shaBlock hv (((padI t).drop (64 * i)).take 64) = X at hX hfn ⊢
          rw [show (enc32 X).toArray = (#[Value.int .u32 (nth X 0), Value.int .u32 (nth X 1), Value.int .u32 (nth X 2), Value.int .u32 (nth X 3), Value.int .u32 (nth X 4), Value.int .u32 (nth X 5), Value.int .u32 (nth X 6), Value.int .u32 (nth X 7)] : Array Value) from congrArg (fun l => (enc32 l).toArray) (eight X hX)]
          have c0 := (blk_cell hh5 0).trans (enc_get hv 0 (by omega))
          have c1 := (blk_cell hh5 1).trans (enc_get hv 1 (by omega))
          have c2 := (blk_cell hh5 2).trans (enc_get hv 2 (by omega))
          have c3 := (blk_cell hh5 3).trans (enc_get hv 3 (by omega))
          have c4 := (blk_cell hh5 4).trans (enc_get hv 4 (by omega))
          have c5 := (blk_cell hh5 5).trans (enc_get hv 5 (by omega))
          have c6 := (blk_cell hh5 6).trans (enc_get hv 6 (by omega))
          have c7 := (blk_cell hh5 7).trans (enc_get hv 7 (by omega))
          have f0 := blk_frozen hh5 0
          have f1 := blk_frozen hh5 1
          have f2 := blk_frozen hh5 2
          have f3 := blk_frozen hh5 3
          have f4 := blk_frozen hh5 4
          have f5 := blk_frozen hh5 5
          have f6 := blk_frozen hh5 6
          have f7 := blk_frozen hh5 7
          have HH := Aside0.mk hh5
          clear hh5
          go_wp2
          refine ⟨⟨i + 1, li - 64, ci - 64, X, (if ci = 64 then ⟨g3, 64 * i, none⟩ else ⟨g3, 64 * i + 64, none⟩), by omega, by have := hC.out.1; omega, by split <;> rfl, fun h => ?_, ?_, hX, ?_, ?_, hfn⟩, by simp [lenOf]; omega⟩
          · have hne : ¬ ci = 64 := by have := hC.out.1; omega
            rw [if_neg hne, Nat.mul_add]
          · exact (set8_heap HH.out hhl _ _ _ _ _ _ _ _).trans (by rw [← eight X hX])
          · refine OwnM.kept HO.out (fun k hk => set8_old _ gh _ _ _ _ _ _ _ _ k ?_)
            have : g3 = k := by simpa [Value.ownBlock] using hk
            subst this
            have := hgh.out
            omega
          · exact set8_below HB.out hgw.out _ _ _ _ _ _ _ _
    · have hq1 : ((L : Int) % 64 != 56) = true := by simpa using fun h => hq (hiff.1 h)
      clear hiff
      go_wp2_with (first | ((with_reducible refine gate_dst (N := 18) rfl ?_); at_builtin; refine halt_ ?_))
      refine ⟨?_⟩
      refine M_append (w0 := w) w.heap.size rfl (.tmp 16) (.tmp 17) 40 5 (.int .u8 0) rfl Tryd.underlying40 (by kernel_rfl) rfl _ (x1 ++ List.replicate m (.int .u8 0)) _ 1 1 [.int .u8 0] rfl rfl rfl (new_cell _ _ _) (by simp [Value.oneCell']) (own_alloc HO.out _) (HB.out.alloc HB.out.size _) (HB.out.alloc HB.out.size (.cells #[.int .u8 0] 5)).size (by have := HL.out; have := hl1.out; simp; unfold padN at hm; omega) ?_
      intro v2 w2 ho2 hb2 hg2
      have hl2 : (x1 ++ List.replicate m (Value.int .u8 0) ++ [Value.int .u8 0]).length = L + 1 := by have := HL.out; have := hl1.out; simp; omega
      obtain ⟨g2, cap2, rfl⟩ := own_form ho2 _ hl2 (by omega)
      clear HO HB hg2
      go_wp2
      refine ⟨⟨m + 1, L + 1, g2, cap2, by omega, by have := HL.out; omega, rfl, ?_, hb2⟩, ?_⟩
      · rw [List.replicate_succ', ← List.append_assoc]
        exact ho2
      · have := HL.out; simp [lenOf]; omega
end Go.Proofs.YtjkanhjapddhnaaDoor.Sha
