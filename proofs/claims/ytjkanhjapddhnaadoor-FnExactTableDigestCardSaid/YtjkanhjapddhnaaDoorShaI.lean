/- The block function of the given program's hash, walked: what it returns is shaBlock of its words and its bytes; no condition. -/
import Derived.Test.YtjkanhjapddhnaaDoorAdds
import Derived.Test.YtjkanhjapddhnaaDoorProg
import Derived.StillTailTactics
import Derived.BigQuiet
import Derived.StillTactics
import Derived.ChangeSlices
namespace Go.Proofs.YtjkanhjapddhnaaDoor.Sha
open Go.RowKit Go.Proofs.YtjkanhjapddhnaaDoorV.PrintWords Go.Lib
set_option linter.unusedVariables false
set_option maxHeartbeats 4000000
set_option maxRecDepth 100000
def rotr (x b : Int) : Int := Go.bits .or .u32 (x * 2 ^ (32 - b).toNat % 4294967296) (x / 2 ^ b.toNat)
theorem turned_calls (x b : Int) (w : World) (h0 : 0 < b) (h1 : b < 32) (hb : Go.bits .and .u64 (IntKind.u64.wrap (-b)) 31 = 32 - b) : Calls Tryd.prog 45 #[.int .u32 x, .int .i64 b] w fun e w' => e = .returned (.int .u32 (rotr x b)) ∧ w' = w := by
  have h2 : IntKind.u64.wrap (32 - (32 - b)) = b := by rw [show (32 : Int) - (32 - b) = b by omega]; simp [IntKind.wrap, IntKind.bits, IntKind.signed]; omega
  have h3 : IntKind.i64.wrap (-b) = -b := by simp [IntKind.wrap, IntKind.bits, IntKind.signed]; omega
  have hfin := Aside0.mk (show rotr x b = Go.bits .or .u32 (x * 2 ^ (32 - b).toNat % 4294967296) (x / 2 ^ b.toNat) from rfl)
  generalize rotr x b = y at hfin ⊢
  go_enter Tryd.func45, Tryd.ntmps45
  go_wp2
  go_ret
  exact ⟨congrArg (fun x => Ending.returned (.int .u32 x)) hfin.out.symm, rfl⟩
def nth (l : List Int) (i : Nat) : Int := l.getD i 0
def enc32 (l : List Int) : List Value := l.map (Value.int .u32)
structure St (t8 t64 : Nat) (w : World) (wr : World) (hs rs ws : List Int) : Prop where
  h : wr.heap[w.heap.size]? = some (.cells (enc32 hs).toArray t8 (0, 0))
  r : wr.heap[w.heap.size + 1]? = some (.cells (enc32 rs).toArray t8 (0, 0))
  wd : wr.heap[w.heap.size + 1 + 1]? = some (.cells (enc32 ws).toArray t64 (0, 0))
  b : Below w.heap.size w wr
  lh : hs.length = 8
  lr : rs.length = 8
  lw : ws.length = 64
theorem enc_get (l : List Int) (i : Nat) (h : i < l.length) : (enc32 l).toArray[i]? = some (Value.int .u32 (nth l i)) := by
  simp [enc32, nth, List.getD_eq_getElem?_getD, List.getElem?_eq_getElem h]
theorem enc_set (l : List Int) (i : Nat) (x : Int) : (enc32 l).toArray.setIfInBounds i (Value.int .u32 x) = (enc32 (l.set i x)).toArray := by
  simp [enc32, List.map_set]
section
variable {t8 t64 : Nat} {w wr : World} {hs rs ws : List Int}
theorem St.cw (h : St t8 t64 w wr hs rs ws) (i : Nat) (hi : i < 64) : wr.cell? ⟨w.heap.size + 1 + 1, i, none⟩ = some (.int .u32 (nth ws i)) := by
  rw [blk_cell h.wd, enc_get _ _ (by rw [h.lw]; exact hi)]
theorem St.ch (h : St t8 t64 w wr hs rs ws) (i : Nat) (hi : i < 8) : wr.cell? ⟨w.heap.size, i, none⟩ = some (.int .u32 (nth hs i)) := by
  rw [blk_cell h.h, enc_get _ _ (by rw [h.lh]; exact hi)]
theorem St.setw (h : St t8 t64 w wr hs rs ws) (i : Nat) (x : Int) : St t8 t64 w (wr.setCell ⟨w.heap.size + 1 + 1, i, none⟩ (.int .u32 x)) hs rs (ws.set i x) where
  h := by rw [Below.heap_setCell _ _ _ _ (by simp; omega)]; exact h.h
  r := by rw [Below.heap_setCell _ _ _ _ (by simp)]; exact h.r
  wd := by rw [blk_set h.wd, enc_set]
  b := h.b.setCell (by simp; omega) _
  lh := h.lh
  lr := h.lr
  lw := by rw [List.length_set]; exact h.lw
theorem heap_new (w : World) (o : Obj) : (w.alloc o).heap[w.heap.size]? = some o := by
  show (w.heap.push o)[w.heap.size]? = _
  simp
theorem heap_new1 (w : World) (o o' : Obj) : ((w.alloc o).alloc o').heap[w.heap.size + 1]? = some o' := by
  have h := heap_new (w.alloc o) o'
  have hs : (w.alloc o).heap.size = w.heap.size + 1 := by simp
  rwa [hs] at h
theorem heap_new2 (w : World) (o o' o2 : Obj) : (((w.alloc o).alloc o').alloc o2).heap[w.heap.size + 1 + 1]? = some o2 := by
  have h := heap_new ((w.alloc o).alloc o') o2
  have hs : ((w.alloc o).alloc o').heap.size = w.heap.size + 1 + 1 := by simp
  rwa [hs] at h
theorem St.start (t8 t64 : Nat) (w : World) (hs : List Int) (z8 z64 : Array Value) (e8 : z8 = (enc32 (List.replicate 8 0)).toArray) (e64 : z64 = (enc32 (List.replicate 64 0)).toArray) (hl : hs.length = 8) :
    St t8 t64 w (((w.alloc (.cells (enc32 hs).toArray t8)).alloc (.cells z8 t8)).alloc (.cells z64 t64)) hs (List.replicate 8 0) (List.replicate 64 0) := by
  subst e8 e64
  refine ⟨?_, ?_, ?_, ?_, hl, by simp, by simp⟩
  · rw [Below.heap_alloc _ _ _ (by simp; omega), Below.heap_alloc _ _ _ (by simp), heap_new]
  · rw [Below.heap_alloc _ _ _ (by simp), heap_new1]
  · rw [heap_new2]
  · exact (((Below.refl _ _).alloc (by omega) _).alloc (by simp) _).alloc (by simp; omega) _
theorem St.drew (h : St t8 t64 w wr hs rs ws) : St t8 t64 w wr.drew hs rs ws := ⟨h.h, h.r, h.wd, h.b.drew, h.lh, h.lr, h.lw⟩
theorem St.drewN (h : St t8 t64 w wr hs rs ws) (n : Nat) : St t8 t64 w (wr.drewN n) hs rs ws := ⟨h.h, h.r, h.wd, pw_below_drewN h.b n, h.lh, h.lr, h.lw⟩
theorem St.byte (h : St t8 t64 w wr hs rs ws) {ad : Addr} (hb : ad.block < w.heap.size) {v : Value} (hc : w.cell? ad = some v) : wr.cell? ad = some v := by
  rw [← hc]; exact h.b.cell hb
end
def word (bs : List Int) (i : Nat) : Int := Go.bits .or .u32 (Go.bits .or .u32 (Go.bits .or .u32 (nth bs (4 * i) % 4294967296 * 16777216 % 4294967296) (nth bs (4 * i + 1) % 4294967296 * 65536 % 4294967296)) (nth bs (4 * i + 2) % 4294967296 * 256 % 4294967296)) (nth bs (4 * i + 3) % 4294967296)
def fillW (bs : List Int) : Nat → Nat → List Int → List Int
  | 0, _, ws => ws
  | n + 1, i, ws => fillW bs n (i + 1) (ws.set i (word bs i))
def sig (x a b c : Int) : Int := Go.bits .xor .u32 (Go.bits .xor .u32 (rotr x a) (rotr x b)) c
def ext (ws : List Int) (i : Nat) : Int := (nth ws (i - 16) + sig (nth ws (i - 15)) 7 18 (nth ws (i - 15) / 8) + nth ws (i - 7) + sig (nth ws (i - 2)) 17 19 (nth ws (i - 2) / 1024)) % 4294967296
def extW : Nat → Nat → List Int → List Int
  | 0, _, ws => ws
  | n + 1, i, ws => extW n (i + 1) (ws.set i (ext ws i))
structure Sr (t8 t64 : Nat) (w wr : World) (hs rs ws av : List Int) (gq : Nat) : Prop where
  st : St t8 t64 w wr hs rs ws
  q : wr.heap[gq]? = some (.cells (enc32 av).toArray t8 (0, 0))
  la : av.length = 8
  lt : w.heap.size + 1 + 1 < gq
theorem eight (l : List Int) (h : l.length = 8) : l = [nth l 0, nth l 1, nth l 2, nth l 3, nth l 4, nth l 5, nth l 6, nth l 7] := by
  match l, h with
  | [_, _, _, _, _, _, _, _], _ => rfl
theorem Sr.start {t8 t64 : Nat} {w wr : World} {hs rs ws : List Int} (h : St t8 t64 w wr hs rs ws) (C : Array Value) (e : C = (enc32 hs).toArray) : Sr t8 t64 w (wr.alloc (.cells C t8)) hs rs ws hs wr.heap.size := by
  subst e
  have hlt := blk_lt h.wd
  refine ⟨⟨?_, ?_, ?_, ?_, h.lh, h.lr, h.lw⟩, heap_new _ _, h.lh, hlt⟩
  · rw [Below.heap_alloc _ _ _ (by omega)]; exact h.h
  · rw [Below.heap_alloc _ _ _ (by omega)]; exact h.r
  · rw [Below.heap_alloc _ _ _ hlt]; exact h.wd
  · exact h.b.alloc h.b.size _
theorem Sr.cq {t8 t64 : Nat} {w wr : World} {hs rs ws av : List Int} {gq : Nat} (h : Sr t8 t64 w wr hs rs ws av gq) (i : Nat) (hi : i < 8) : wr.cell? ⟨gq, i, none⟩ = some (.int .u32 (nth av i)) := by
  rw [blk_cell h.q, enc_get _ _ (by rw [h.la]; exact hi)]
theorem Sr.drewN {t8 t64 : Nat} {w wr : World} {hs rs ws av : List Int} {gq : Nat} (h : Sr t8 t64 w wr hs rs ws av gq) (n : Nat) : Sr t8 t64 w (wr.drewN n) hs rs ws av gq := ⟨h.st.drewN n, h.q, h.la, h.lt⟩
def roundK : List Int := [1116352408, 1899447441, 3049323471, 3921009573, 961987163, 1508970993, 2453635748, 2870763221, 3624381080, 310598401, 607225278, 1426881987, 1925078388, 2162078206, 2614888103, 3248222580, 3835390401, 4022224774, 264347078, 604807628, 770255983, 1249150122, 1555081692, 1996064986, 2554220882, 2821834349, 2952996808, 3210313671, 3336571891, 3584528711, 113926993, 338241895, 666307205, 773529912, 1294757372, 1396182291, 1695183700, 1986661051, 2177026350, 2456956037, 2730485921, 2820302411, 3259730800, 3345764771, 3516065817, 3600352804, 4094571909, 275423344, 430227734, 506948616, 659060556, 883997877, 958139571, 1322822218, 1537002063, 1747873779, 1955562222, 2024104815, 2227730452, 2361852424, 2428436474, 2756734187, 3204031479, 3329325298]
def pS (ws : List Int) (k : Nat) (av : List Int) : Int := nth av 7 + Go.bits .xor .u32 (Go.bits .xor .u32 (rotr (nth av 4) 6) (rotr (nth av 4) 11)) (rotr (nth av 4) 25) + Go.bits .or .u32 (Go.bits .and .u32 (nth av 4) (nth av 5)) (Go.bits .and .u32 (Go.bits .xor .u32 IntKind.u32.max (nth av 4)) (nth av 6)) + nth roundK k + nth ws k
def qS (av : List Int) : Int := Go.bits .xor .u32 (Go.bits .xor .u32 (rotr (nth av 0) 2) (rotr (nth av 0) 13)) (rotr (nth av 0) 22) + Go.bits .xor .u32 (Go.bits .xor .u32 (Go.bits .and .u32 (nth av 0) (nth av 1)) (Go.bits .and .u32 (nth av 0) (nth av 2))) (Go.bits .and .u32 (nth av 1) (nth av 2))
def step (ws : List Int) (k : Nat) (av : List Int) : List Int := [(pS ws k av + qS av) % 4294967296, nth av 0, nth av 1, nth av 2, (nth av 3 + pS ws k av) % 4294967296, nth av 4, nth av 5, nth av 6]
def roundsA : Nat → Nat → List Int → List Int → List Int
  | 0, _, _, av => av
  | n + 1, k, ws, av => roundsA n (k + 1) ws (step ws k av)
def addH : Nat → Nat → List Int → List Int → List Int
  | 0, _, hv, _ => hv
  | n + 1, k, hv, av => addH n (k + 1) (hv.set k ((nth hv k + nth av k) % 4294967296)) av
def shaBlock (hs bs : List Int) : List Int := addH 8 0 hs (roundsA 64 0 (extW 48 16 (fillW bs 16 0 (List.replicate 64 0))) hs)
section
variable {t8 t64 : Nat} {w wr : World} {hs rs ws av : List Int} {gq : Nat}
theorem Sr.set (h : Sr t8 t64 w wr hs rs ws av gq) (i : Nat) (x : Int) : Sr t8 t64 w (wr.setCell ⟨gq, i, none⟩ (.int .u32 x)) hs rs ws (av.set i x) gq where
  st := by
    have hlt := h.lt
    refine ⟨?_, ?_, ?_, h.st.b.setCell (by simp; omega) _, h.st.lh, h.st.lr, h.st.lw⟩
    · rw [Below.heap_setCell _ _ _ _ (by simp; omega)]; exact h.st.h
    · rw [Below.heap_setCell _ _ _ _ (by simp; omega)]; exact h.st.r
    · rw [Below.heap_setCell _ _ _ _ (by simp; omega)]; exact h.st.wd
  q := by rw [blk_set h.q, enc_set]
  la := by rw [List.length_set]; exact h.la
  lt := h.lt
theorem St.setr (h : St t8 t64 w wr hs rs ws) (i : Nat) (x : Int) : St t8 t64 w (wr.setCell ⟨w.heap.size + 1, i, none⟩ (.int .u32 x)) hs (rs.set i x) ws where
  h := by rw [Below.heap_setCell _ _ _ _ (by simp)]; exact h.h
  r := by rw [blk_set h.r, enc_set]
  wd := by rw [Below.heap_setCell _ _ _ _ (by simp)]; exact h.wd
  b := h.b.setCell (by simp) _
  lh := h.lh
  lr := by rw [List.length_set]; exact h.lr
  lw := h.lw
theorem St.setr8 (h : St t8 t64 w wr hs rs ws) (x0 x1 x2 x3 x4 x5 x6 x7 : Int) :
    St t8 t64 w ((((((((wr.setCell ⟨w.heap.size + 1, 0, none⟩ (.int .u32 x0)).setCell ⟨w.heap.size + 1, 1, none⟩ (.int .u32 x1)).setCell ⟨w.heap.size + 1, 2, none⟩ (.int .u32 x2)).setCell ⟨w.heap.size + 1, 3, none⟩ (.int .u32 x3)).setCell ⟨w.heap.size + 1, 4, none⟩ (.int .u32 x4)).setCell ⟨w.heap.size + 1, 5, none⟩ (.int .u32 x5)).setCell ⟨w.heap.size + 1, 6, none⟩ (.int .u32 x6)).setCell ⟨w.heap.size + 1, 7, none⟩ (.int .u32 x7)) hs [x0, x1, x2, x3, x4, x5, x6, x7] ws := by
  have h8 := (((((((h.setr 0 x0).setr 1 x1).setr 2 x2).setr 3 x3).setr 4 x4).setr 5 x5).setr 6 x6).setr 7 x7
  have e := eight rs h.lr
  rw [e] at h8
  exact h8
theorem St.cr (h : St t8 t64 w wr hs rs ws) (i : Nat) (hi : i < 8) : wr.cell? ⟨w.heap.size + 1, i, none⟩ = some (.int .u32 (nth rs i)) := by
  rw [blk_cell h.r, enc_get _ _ (by rw [h.lr]; exact hi)]
theorem Sr.set8 (h : Sr t8 t64 w wr hs rs ws av gq) (x0 x1 x2 x3 x4 x5 x6 x7 : Int) :
    Sr t8 t64 w ((((((((wr.setCell ⟨gq, 0, none⟩ (.int .u32 x0)).setCell ⟨gq, 1, none⟩ (.int .u32 x1)).setCell ⟨gq, 2, none⟩ (.int .u32 x2)).setCell ⟨gq, 3, none⟩ (.int .u32 x3)).setCell ⟨gq, 4, none⟩ (.int .u32 x4)).setCell ⟨gq, 5, none⟩ (.int .u32 x5)).setCell ⟨gq, 6, none⟩ (.int .u32 x6)).setCell ⟨gq, 7, none⟩ (.int .u32 x7)) hs rs ws [x0, x1, x2, x3, x4, x5, x6, x7] gq := by
  have h8 := (((((((h.set 0 x0).set 1 x1).set 2 x2).set 3 x3).set 4 x4).set 5 x5).set 6 x6).set 7 x7
  have e := eight av h.la
  rw [e] at h8
  exact h8
theorem Sr.seth (h : Sr t8 t64 w wr hs rs ws av gq) (i : Nat) (x : Int) : Sr t8 t64 w (wr.setCell ⟨w.heap.size, i, none⟩ (.int .u32 x)) (hs.set i x) rs ws av gq where
  st := by
    have hlt := h.lt
    refine ⟨by rw [blk_set h.st.h, enc_set], ?_, ?_, h.st.b.setCell (Nat.le_refl _) _, by rw [List.length_set]; exact h.st.lh, h.st.lr, h.st.lw⟩
    · rw [Below.heap_setCell _ _ _ _ (by simp)]; exact h.st.r
    · rw [Below.heap_setCell _ _ _ _ (by simp; omega)]; exact h.st.wd
  q := by
    have hlt := h.lt
    rw [Below.heap_setCell _ _ _ _ (by simp; omega)]; exact h.q
  la := h.la
  lt := h.lt
end
theorem wr64 (x : Int) (h0 : 0 ≤ x) (h1 : x < 9223372036854775808) : IntKind.i64.wrap x = x := by
  simp [IntKind.wrap, IntKind.bits, IntKind.signed]; omega
theorem idx_ok (x n : Int) (h0 : 0 ≤ x) (h1 : x < n) : (0 ≤ x) = True ∧ (x < n) = True := ⟨eq_true h0, eq_true h1⟩
def GlobA (w : World) : Prop := ∀ i, i < 64 → w.cell? ⟨0, i, none⟩ = some (.int .u32 (nth roundK i))
theorem glob_lt {w : World} (h : GlobA w) : 0 < w.heap.size := by
  have h0 := h 0 (by omega)
  rcases Nat.lt_or_ge 0 w.heap.size with h' | h'
  · exact h'
  · simp [World.cell?, Array.getElem?_eq_none h'] at h0
theorem block_calls (hs bs : List Int) (g o : Nat) (c : Nat) (w : World) (hG : GlobA w) (hl : hs.length = 8) (hb : bs.length = 64) (hc : ∀ j, j < 64 → w.cell? ⟨g, o + j, none⟩ = some (.int .u8 (nth bs j))) (hbl : g < w.heap.size) :
    Calls Tryd.prog 34 #[.agg (enc32 hs).toArray, .slice (some ⟨g, o, none⟩) 64 c] w fun e w' => e = .returned (.agg (enc32 (shaBlock hs bs)).toArray) ∧ Below w.heap.size w w' := by
  go_enter Tryd.func34, Tryd.ntmps34
  go_wp2
  go_loopw [16] (fun v wr => ∃ (k : Nat) (ws : List Int), k ≤ 16 ∧ v = .int .i64 k ∧ St 77 88 w wr hs (List.replicate 8 0) ws ∧ Aside0 (fillW bs (16 - k) k ws = fillW bs 16 0 (List.replicate 64 0))) (fun v _ => 16 - (intOf v).toNat)
  case atStart =>
    refine ⟨0, List.replicate 64 0, Nat.zero_le _, rfl, ?_, ⟨rfl⟩⟩
    exact St.start _ _ w hs _ _ rfl rfl hl
  case round =>
    obtain ⟨k, ws, hk, rfl, hst, hf⟩ := hrel
    by_cases hlt : k < 16
    · go_wp2
      refine wp_region_still_tail 35 (by kernel_rfl) (by kernel_rfl) ?_
      have hst1 := hst.drew
      generalize hwd : ({ wr with drawn := wr.drawn + 1 } : World) = wd
      have hst2 : St 77 88 w wd hs (List.replicate 8 0) ws := hwd ▸ hst1
      clear hst hst1 hwd
      have HS := Aside0.mk hst2
      have c0 := hst2.byte hbl (hc (4 * k) (by omega))
      have c1 := hst2.byte hbl (hc (4 * k + 1) (by omega))
      have c2 := hst2.byte hbl (hc (4 * k + 2) (by omega))
      have c3 := hst2.byte hbl (hc (4 * k + 3) (by omega))
      have cw := hst2.cw k (by omega)
      have fw := blk_frozen hst2.wd k
      clear hst2
      have e0 : ((4 * (k : Int)) : Int).toNat = 4 * k := by omega
      have e1 : ((4 * (k : Int) + 1) : Int).toNat = 4 * k + 1 := by omega
      have e2 : ((4 * (k : Int) + 2) : Int).toNat = 4 * k + 2 := by omega
      have e3 : ((4 * (k : Int) + 3) : Int).toNat = 4 * k + 3 := by omega
      have q0 := wr64 (4 * (k : Int)) (by omega) (by omega)
      have q1 := wr64 (4 * (k : Int) + 1) (by omega) (by omega)
      have q2 := wr64 (4 * (k : Int) + 2) (by omega) (by omega)
      have q3 := wr64 (4 * (k : Int) + 3) (by omega) (by omega)
      have p0 := idx_ok (4 * (k : Int)) 64 (by omega) (by omega)
      have p1 := idx_ok (4 * (k : Int) + 1) 64 (by omega) (by omega)
      have p2 := idx_ok (4 * (k : Int) + 2) 64 (by omega) (by omega)
      have p3 := idx_ok (4 * (k : Int) + 3) 64 (by omega) (by omega)
      obtain ⟨p0a, p0b⟩ := p0
      obtain ⟨p1a, p1b⟩ := p1
      obtain ⟨p2a, p2b⟩ := p2
      obtain ⟨p3a, p3b⟩ := p3
      have p4 : ((k : Int) < 64) = True := eq_true (by omega)
      have p5 : (k < 64) = True := eq_true (by omega)
      simp only [List.take_succ_cons, List.take_zero, List.drop_succ_cons, List.drop_zero]
      repeat still_step
      refine wpStill_nil ?_
      go_wp2
      refine ⟨⟨k + 1, _, hlt, by simp, HS.out.setw k _, ⟨?_⟩⟩, ?_⟩
      · rw [← hf.out, show 16 - k = 16 - (k + 1) + 1 by omega, fillW]; rfl
      · (simp [intOf]; try omega)
    · obtain rfl : k = 16 := by omega
      have hw0 : ws = fillW bs 16 0 (List.replicate 64 0) := hf.out
      rw [hw0] at hst
      clear hf hlt hk hw0
      go_wp2
      go_loopw [7] (fun v wr => ∃ (k : Nat) (ws : List Int), k ≤ 64 ∧ 16 ≤ k ∧ v = .int .i64 k ∧ St 77 88 w wr hs (List.replicate 8 0) ws ∧ Aside0 (extW (64 - k) k ws = extW 48 16 (fillW bs 16 0 (List.replicate 64 0)))) (fun v _ => 64 - (intOf v).toNat)
      case atStart => exact ⟨16, _, by omega, by omega, rfl, hst, ⟨rfl⟩⟩
      case round =>
        clear hst
        obtain ⟨k, ws, hk, hk6, rfl, hst, hf⟩ := hrel
        by_cases hlt : k < 64
        · have HS := Aside0.mk hst
          have d0 := hst.cw (k - 15) (by omega)
          have d1 := hst.cw (k - 2) (by omega)
          have q0 := wr64 ((k : Int) - 15) (by omega) (by omega)
          have q1 := wr64 ((k : Int) - 2) (by omega) (by omega)
          have e0 : ((k : Int) - 15).toNat = k - 15 := by omega
          have e1 : ((k : Int) - 2).toNat = k - 2 := by omega
          have p0 : (0 ≤ (k : Int) - 15) = True := eq_true (by omega)
          have p1 : (0 ≤ (k : Int) - 2) = True := eq_true (by omega)
          have p2 : ((k : Int) - 15 < 64) = True := eq_true (by omega)
          have p3 : ((k : Int) - 2 < 64) = True := eq_true (by omega)
          have p4 : (15 ≤ (k : Int)) = True := eq_true (by omega)
          have p5 : (2 ≤ (k : Int)) = True := eq_true (by omega)
          have p6 : (k - 15 < 64) = True := eq_true (by omega)
          have p7 : (k - 2 < 64) = True := eq_true (by omega)
          clear hst
          go_wp2
          go_quiet (fail)
          go_wp2
          refine wp_region_still_tail 29 (by kernel_rfl) (by kernel_rfl) ?_
          clear d0 d1 q0 q1 e0 e1 p0 p1 p2 p3 p4 p5 p6 p7
          have hst1 := St.drew (HS.out.drewN nq)
          generalize hwd : ({ wr.drewN nq with drawn := (wr.drewN nq).drawn + 1 } : World) = wd
          have hst2 : St 77 88 w wd hs (List.replicate 8 0) ws := hwd ▸ hst1
          clear hst1 hwd
          have HS := Aside0.mk hst2
          have d0 := hst2.cw (k - 16) (by omega)
          have d1 := hst2.cw (k - 7) (by omega)
          have d2 := hst2.cw k (by omega)
          have fw := blk_frozen hst2.wd k
          have q0 := wr64 ((k : Int) - 16) (by omega) (by omega)
          have q1 := wr64 ((k : Int) - 7) (by omega) (by omega)
          have e0 : ((k : Int) - 16).toNat = k - 16 := by omega
          have e1 : ((k : Int) - 7).toNat = k - 7 := by omega
          have p0 : (0 ≤ (k : Int) - 16) = True := eq_true (by omega)
          have p1 : (0 ≤ (k : Int) - 7) = True := eq_true (by omega)
          have p2 : ((k : Int) - 16 < 64) = True := eq_true (by omega)
          have p3 : ((k : Int) - 7 < 64) = True := eq_true (by omega)
          have p4 : (16 ≤ (k : Int)) = True := eq_true (by omega)
          have p5 : (7 ≤ (k : Int)) = True := eq_true (by omega)
          have p6 : (k - 16 < 64) = True := eq_true (by omega)
          have p7 : (k - 7 < 64) = True := eq_true (by omega)
          have p8 : ((k : Int) < 64) = True := eq_true (by omega)
          have p9 : (k < 64) = True := eq_true (by omega)
          clear hst2
          simp only [List.take_succ_cons, List.take_zero, List.drop_succ_cons, List.drop_zero]
          repeat still_step
          still_call (turned_calls _ 7 wd (by omega) (by omega) (by kernel_rfl))
          repeat still_step
          still_call (turned_calls _ 18 wd (by omega) (by omega) (by kernel_rfl))
          repeat still_step
          still_call (turned_calls _ 17 wd (by omega) (by omega) (by kernel_rfl))
          repeat still_step
          still_call (turned_calls _ 19 wd (by omega) (by omega) (by kernel_rfl))
          repeat still_step
          refine wpStill_nil ?_
          go_wp2
          refine ⟨⟨_, _, _, _, _, _, _, _, _, _, _, _, _, _, _, _, _, _, _, _, _, _, _, _, _, _, _, _, _, _, _, _, _, _, _, _, _, _, _, _, _, _, _, _, ?rel, rfl⟩, ?measure⟩
          case rel =>
            refine ⟨k + 1, _, by omega, by omega, by simp, HS.out.setw k _, ⟨?_⟩⟩
            rw [← hf.out, show 64 - k = 64 - (k + 1) + 1 by omega, extW]
            rfl
          case measure => (simp [intOf]; try omega)
        · obtain rfl : k = 64 := by omega
          have hw1 := Aside0.mk (show ws = extW 48 16 (fillW bs 16 0 (List.replicate 64 0)) from hf.out)
          clear hf hlt hk hk6
          have HS := Aside0.mk hst
          have c0 := hst.ch 0 (by omega)
          have c1 := hst.ch 1 (by omega)
          have c2 := hst.ch 2 (by omega)
          have c3 := hst.ch 3 (by omega)
          have c4 := hst.ch 4 (by omega)
          have c5 := hst.ch 5 (by omega)
          have c6 := hst.ch 6 (by omega)
          have c7 := hst.ch 7 (by omega)
          clear hst
          go_wp2
          have hq := Sr.start HS.out #[.int .u32 (nth hs 0), .int .u32 (nth hs 1), .int .u32 (nth hs 2), .int .u32 (nth hs 3), .int .u32 (nth hs 4), .int .u32 (nth hs 5), .int .u32 (nth hs 6), .int .u32 (nth hs 7)] (by rw [eight hs hl]; rfl)
          generalize (wr.alloc (.cells #[.int .u32 (nth hs 0), .int .u32 (nth hs 1), .int .u32 (nth hs 2), .int .u32 (nth hs 3), .int .u32 (nth hs 4), .int .u32 (nth hs 5), .int .u32 (nth hs 6), .int .u32 (nth hs 7)] 77)) = wq at hq ⊢
          clear HS c0 c1 c2 c3 c4 c5 c6 c7
          generalize wr.heap.size = gq at hq ⊢
          go_loopw [97] (fun v wr => ∃ (k : Nat) (av : List Int), k ≤ 64 ∧ v = .int .i64 k ∧ Sr 77 88 w wr hs (List.replicate 8 0) ws av gq ∧ Aside0 (roundsA (64 - k) k ws av = roundsA 64 0 ws hs)) (fun v _ => 64 - (intOf v).toNat)
          case atStart => exact ⟨0, hs, by omega, rfl, hq, ⟨rfl⟩⟩
          case round =>
            clear hq
            obtain ⟨k, av, hk, rfl, hst, hf⟩ := hrel
            by_cases hlt : k < 64
            · have HS := Aside0.mk hst
              have c0 := HS.out.cq 0 (by omega)
              have c1 := HS.out.cq 1 (by omega)
              have c2 := HS.out.cq 2 (by omega)
              have c3 := HS.out.cq 3 (by omega)
              have c4 := HS.out.cq 4 (by omega)
              have c5 := HS.out.cq 5 (by omega)
              have c6 := HS.out.cq 6 (by omega)
              have c7 := HS.out.cq 7 (by omega)
              have cw := hst.st.cw k hlt
              have ck : wr.cell? ⟨0, k, none⟩ = some (.int .u32 (nth roundK k)) := by
                rw [← hG k hlt]; exact hst.st.b.cell (glob_lt hG)
              have p8 : ((k : Int) < 64) = True := eq_true (by omega)
              have p9 : (k < 64) = True := eq_true (by omega)
              clear hst
              go_wp2
              go_quiet (exact Calls.quiet_of ((turned_calls _ _ _ (by omega) (by omega) (by kernel_rfl)).mono (fun e w' h => ⟨h.1, 0, h.2⟩)))
              clear c0 c1 c2 c3 c4 c5 c6 c7 cw ck p8 p9
              replace HS := Aside0.mk (HS.out.drewN nq)
              generalize wr.drewN nq = wr2 at HS ⊢
              have c0 := HS.out.cq 0 (by omega)
              have c1 := HS.out.cq 1 (by omega)
              have c2 := HS.out.cq 2 (by omega)
              have c3 := HS.out.cq 3 (by omega)
              have c4 := HS.out.cq 4 (by omega)
              have c5 := HS.out.cq 5 (by omega)
              have c6 := HS.out.cq 6 (by omega)
              have c7 := HS.out.cq 7 (by omega)
              go_wp2
              go_quiet (exact Calls.quiet_of ((turned_calls _ _ _ (by omega) (by omega) (by kernel_rfl)).mono (fun e w' h => ⟨h.1, 0, h.2⟩)))
              clear c0 c1 c2 c3 c4 c5 c6 c7
              replace HS := Aside0.mk (HS.out.drewN nq)
              generalize wr2.drewN nq = wr3 at HS ⊢
              have c0 := HS.out.cq 0 (by omega)
              have c1 := HS.out.cq 1 (by omega)
              have c2 := HS.out.cq 2 (by omega)
              have c3 := HS.out.cq 3 (by omega)
              have c4 := HS.out.cq 4 (by omega)
              have c5 := HS.out.cq 5 (by omega)
              have c6 := HS.out.cq 6 (by omega)
              have c7 := HS.out.cq 7 (by omega)
              have f0 := blk_frozen HS.out.q 0
              have f1 := blk_frozen HS.out.q 1
              have f2 := blk_frozen HS.out.q 2
              have f3 := blk_frozen HS.out.q 3
              have f4 := blk_frozen HS.out.q 4
              have f5 := blk_frozen HS.out.q 5
              have f6 := blk_frozen HS.out.q 6
              have f7 := blk_frozen HS.out.q 7
              go_wp2
              refine ⟨⟨_, _, _, _, _, _, _, _, _, _, _, _, _, _, _, _, _, _, _, _, _, _, _, _, _, _, _, _, _, _, _, _, _, _, _, _, _, _, _, _, _, _, _, _, _, _, _, _, _, _, _, _, _, _, _, _, _, _, _, _, _, _, _, _, _, _, _, _, _, _, _, _, _, _, _, _, _, _, _, _, _, _, _, _, _, _, _, _, _, ?rel, rfl⟩, ?measure⟩
              case rel =>
                refine ⟨k + 1, _, by omega, by simp, HS.out.set8 _ _ _ _ _ _ _ _, ⟨?_⟩⟩
                rw [← hf.out, show 64 - k = 64 - (k + 1) + 1 by omega, roundsA]
                rfl
              case measure => (simp [intOf]; try omega)
            · obtain rfl : k = 64 := by omega
              have hw2 := Aside0.mk (show av = roundsA 64 0 ws hs from hf.out)
              clear hf hlt hk
              go_wp2
              go_loopw [182] (fun v wr => ∃ (k : Nat) (hv : List Int), k ≤ 8 ∧ v = .int .i64 k ∧ Sr 77 88 w wr hv (List.replicate 8 0) ws av gq ∧ Aside0 (addH (8 - k) k hv av = addH 8 0 hs av)) (fun v _ => 8 - (intOf v).toNat)
              case atStart => exact ⟨0, hs, by omega, rfl, hst, ⟨rfl⟩⟩
              case round =>
                clear hst
                obtain ⟨k, hv, hk, rfl, hst, hf⟩ := hrel
                by_cases hlt : k < 8
                · go_wp2
                  refine wp_region_still_tail 8 (by kernel_rfl) (by kernel_rfl) ?_
                  have hst1 := hst.drewN 1
                  generalize hwd : ({ wr with drawn := wr.drawn + 1 } : World) = wd
                  have hst2 : Sr 77 88 w wd hv (List.replicate 8 0) ws av gq := hwd ▸ hst1
                  clear hst hst1 hwd
                  have HS := Aside0.mk hst2
                  have d0 := hst2.st.ch k (by omega)
                  have d1 := hst2.cq k (by omega)
                  have fw := blk_frozen hst2.st.h k
                  have p8 : ((k : Int) < 8) = True := eq_true (by omega)
                  have p9 : (k < 8) = True := eq_true (by omega)
                  clear hst2
                  simp only [List.take_succ_cons, List.take_zero, List.drop_succ_cons, List.drop_zero]
                  repeat still_step
                  refine wpStill_nil ?_
                  go_wp2
                  refine ⟨⟨_, _, _, _, _, _, _, _, _, _, _, _, _, ?rel, rfl⟩, ?measure⟩
                  case rel =>
                    refine ⟨k + 1, _, by omega, by simp, HS.out.seth k _, ⟨?_⟩⟩
                    rw [← hf.out, show 8 - k = 8 - (k + 1) + 1 by omega, addH]
                  case measure => (simp [intOf]; try omega)
                · obtain rfl : k = 8 := by omega
                  have hw3 := Aside0.mk (show hv = addH 8 0 hs av from hf.out)
                  clear hf hlt hk
                  have HS := Aside0.mk hst
                  have c0 := hst.st.ch 0 (by omega)
                  have c1 := hst.st.ch 1 (by omega)
                  have c2 := hst.st.ch 2 (by omega)
                  have c3 := hst.st.ch 3 (by omega)
                  have c4 := hst.st.ch 4 (by omega)
                  have c5 := hst.st.ch 5 (by omega)
                  have c6 := hst.st.ch 6 (by omega)
                  have c7 := hst.st.ch 7 (by omega)
                  have b0 := blk_cell hst.st.r 0
                  have b1 := blk_cell hst.st.r 1
                  have b2 := blk_cell hst.st.r 2
                  have b3 := blk_cell hst.st.r 3
                  have b4 := blk_cell hst.st.r 4
                  have b5 := blk_cell hst.st.r 5
                  have b6 := blk_cell hst.st.r 6
                  have b7 := blk_cell hst.st.r 7
                  rw [enc_get _ _ (by decide)] at b0 b1 b2 b3 b4 b5 b6 b7
                  have f0 := blk_frozen hst.st.r 0
                  have f1 := blk_frozen hst.st.r 1
                  have f2 := blk_frozen hst.st.r 2
                  have f3 := blk_frozen hst.st.r 3
                  have f4 := blk_frozen hst.st.r 4
                  have f5 := blk_frozen hst.st.r 5
                  have f6 := blk_frozen hst.st.r 6
                  have f7 := blk_frozen hst.st.r 7
                  clear hst
                  go_wp2
                  have hz := HS.out.st.setr8 (nth hv 0) (nth hv 1) (nth hv 2) (nth hv 3) (nth hv 4) (nth hv 5) (nth hv 6) (nth hv 7)
                  rw [← eight hv HS.out.st.lh] at hz
                  clear HS c0 c1 c2 c3 c4 c5 c6 c7 b0 b1 b2 b3 b4 b5 b6 b7 f0 f1 f2 f3 f4 f5 f6 f7
                  generalize ((((((((wr.setCell ⟨w.heap.size + 1, 0, none⟩ (.int .u32 (nth hv 0))).setCell ⟨w.heap.size + 1, 1, none⟩ (.int .u32 (nth hv 1))).setCell ⟨w.heap.size + 1, 2, none⟩ (.int .u32 (nth hv 2))).setCell ⟨w.heap.size + 1, 3, none⟩ (.int .u32 (nth hv 3))).setCell ⟨w.heap.size + 1, 4, none⟩ (.int .u32 (nth hv 4))).setCell ⟨w.heap.size + 1, 5, none⟩ (.int .u32 (nth hv 5))).setCell ⟨w.heap.size + 1, 6, none⟩ (.int .u32 (nth hv 6))).setCell ⟨w.heap.size + 1, 7, none⟩ (.int .u32 (nth hv 7))) = wz at hz ⊢
                  have c0 := hz.cr 0 (by omega)
                  have c1 := hz.cr 1 (by omega)
                  have c2 := hz.cr 2 (by omega)
                  have c3 := hz.cr 3 (by omega)
                  have c4 := hz.cr 4 (by omega)
                  have c5 := hz.cr 5 (by omega)
                  have c6 := hz.cr 6 (by omega)
                  have c7 := hz.cr 7 (by omega)
                  have HZ := Aside0.mk hz
                  clear hz
                  refine bodyPost_ret (results_cell_row rfl _ _ (w.heap.size + 1) 77 (enc32 hv).toArray (0, 0) _ rfl HZ.out.r Tryd.underlying77 rfl (by rw [eight hv HZ.out.lh]; kernel_rfl)) rfl ?_
                  refine ⟨congrArg (fun x => Ending.returned (.agg x)) ?_, HZ.out.b⟩
                  have e := eight hv HZ.out.lh
                  have e2 : shaBlock hs bs = hv := by rw [hw3.out, hw2.out, hw1.out]; rfl
                  rw [e2]
end Go.Proofs.YtjkanhjapddhnaaDoor.Sha
