/- The reference's hash, walked: what it returns is shaB of its bytes; no condition. -/
import Derived.Test.YtjkanhjapddhnaaDoorShaJ
import Derived.Test.YtjkanhjapddhnaaDoorShaS
import Derived.Test.YtjkanhjapddhnaaDoorPConx1
import Derived.Deep.RegionHeld3
import Derived.Deep.AppendLies
namespace Go.Proofs.YtjkanhjapddhnaaDoor.Sha
open Go.RowKit Go.Proofs.YtjkanhjapddhnaaDoorV.PrintWords Go.Proofs.YtjkanhjapddhnaaDoorV.PrintMore Go.Lib
set_option linter.unusedVariables false
set_option maxHeartbeats 4000000
set_option maxRecDepth 100000
def len8 (n : Int) : List Int := [n / 72057594037927936 % 256, n / 281474976710656 % 256, n / 1099511627776 % 256, n / 4294967296 % 256, n / 16777216 % 256, n / 65536 % 256, n / 256 % 256, n % 256]
def padB (xs : List Int) : List Int := xs ++ [128] ++ List.replicate (padN (xs.length + 1)) 0 ++ len8 (8 * (xs.length : Int))
def out4 (hv : List Int) : Nat → List Int
  | 0 => []
  | k + 1 => out4 hv k ++ [nth hv k / 16777216 % 256, nth hv k / 65536 % 256, nth hv k / 256 % 256, nth hv k % 256]
def shaB (xs : List Int) : ByteArray := strOfNums (out4 (blocks ((padB xs).length / 64) 0 sha0 (padB xs)) 8)
theorem pad_stepB (L n m : Nat) (hL : L = n + 1 + m) (hm : m ≤ padN (n + 1)) : (((L : Int) % 64 = 56) ↔ m = padN (n + 1)) := by
  unfold padN at hm ⊢
  omega
theorem M_append2 {P : Program} {ops : Array Oper} {rest : List Oper} {o : Oper} {a : Act} {Q : Exit → Act → World → Prop} {w0 W : World} (b0 base : Nat) (hb0 : b0 ≤ base) (hgd : o.guard = none) (s x : Operand) (t e : TypeId) (z : Value)
    (ho : o.op = .call { callee := .builtin .append, args := #[s, x], argTypes := #[t, t] })
    (ht : P.underlying t = some (.slice e)) (hinfo : (P.info? e).map (fun i => (i.zero, i.size, i.bytes)) = some (some z, 1, 1)) (hzs : z.cells.size = 1)
    (v : Value) (xs : List Value) (ad : Addr) (m c : Nat) (news : List Value) (hs : a.eval s = v) (hx : a.eval x = .slice (some ad) m c) (hlen : news.length = m) (hnews : ∀ j u, news[j]? = some u → W.cell? (ad.add j) = some u) (h1 : ∀ u ∈ news, u.oneCell' = true)
    (HO : OwnM W base e v xs) (HB : Below b0 w0 W) (hbase : base ≤ W.heap.size) (hl : xs.length + m ≤ 140737488355328)
    (h : ∀ v1 w1, OwnM w1 base e v1 (xs ++ news) → Below b0 w0 w1 → W.grownBy w1 v.ownBlock → wpList P ops Q rest (a.put o.dst v1) w1) :
    wpList P ops Q (o :: rest) a W := by
  obtain ⟨i0, hi, hzz⟩ := Option.map_eq_some_iff.1 hinfo
  simp only [Prod.mk.injEq] at hzz
  obtain ⟨hz0, hz1, hz2⟩ := hzz
  obtain ⟨v1, w1, hrun, h2, hg⟩ := run_append_M (P := P) W base t o.type e i0 z ht hi hz0 hz1 hz2 hzs v xs HO ad m c news hlen hnews h1 hl hbase
  refine wpList_plain hgd fun K hK => ?_
  unfold Oper.wp execOp
  simp only [ho, resolve, invoke, builtin, Sem.run_bind, Sem.run_pure, Result.andThen_ok, List.map_toArray, List.map_cons, List.map_nil, hs, hx, hrun]
  exact hK _ _ (h v1 w1 h2 (HB.grown hg (by omega) (fun k hk => by have := (HO.lt k hk).1; omega)) hg)
/-- The bytes of a row that is read, appended. -/
theorem M_append_read {P : Program} {ops : Array Oper} {rest : List Oper} {o : Oper} {a : Act} {Q : Exit → Act → World → Prop} {w0 W : World} (b0 base : Nat) (hb0 : b0 ≤ base) (hgd : o.guard = none) (s x : Operand) (t e : TypeId)
    (ho : o.op = .call { callee := .builtin .append, args := #[s, x], argTypes := #[t, t] })
    (ht : P.underlying t = some (.slice e)) (hinfo : (P.info? e).map (fun i => (i.zero, i.size, i.bytes)) = some (some (.int .u8 0), 1, 1))
    (g cap : Nat) (A : Option Addr) (c : Nat) (xs : List Int) (hs : a.eval s = .slice (some ⟨g, 0, none⟩) 0 cap) (hx : a.eval x = .slice A xs.length c) (hr : (Kd.int .u8).C W A xs.length xs)
    (HO : OwnM W base e (.slice (some ⟨g, 0, none⟩) 0 cap) []) (HB : Below b0 w0 W) (hbase : base ≤ W.heap.size) (hl : xs.length ≤ 140737488355328)
    (h : ∀ v1 w1, OwnM w1 base e v1 (encs (Value.int .u8) xs) → Below b0 w0 w1 → W.grownBy w1 (some g) → (∃ g1 c1, v1 = .slice (some ⟨g1, 0, none⟩) xs.length c1) → wpList P ops Q rest (a.put o.dst v1) w1) :
    wpList P ops Q (o :: rest) a W := by
  have hrd := Kd.reads_of_C (enc := Value.int .u8) (d := (0 : Int)) (h1 := fun _ => rfl) hr
  rcases Nat.eq_zero_or_pos xs.length with h0 | h0
  · have hx0 : xs = [] := List.length_eq_zero_iff.1 h0
    subst hx0
    obtain ⟨i0, hi, hzz⟩ := Option.map_eq_some_iff.1 hinfo
    simp only [Prod.mk.injEq] at hzz
    obtain ⟨hz0, hz1, hz2⟩ := hzz
    have hrun : (Builtin.append_ #[t, t] o.type #[.slice (some ⟨g, 0, none⟩) 0 cap, .slice A 0 c]).run P W = .ok (.slice (some ⟨g, 0, none⟩) 0 cap) W := by
      cases A with
      | none => simp [Builtin.append_, run_underlying ht, sizeOf, typeInfo, hi, Builtin.lenOf, run_firstCells_none, storeCells]
      | some ad =>
        have hf := run_firstCells_some (P := P) W i0.size 0 ad 0 c [] (by simp) (by simp)
        simp [Builtin.append_, run_underlying ht, sizeOf, typeInfo, hi, Builtin.lenOf, hf, storeCells]
    refine wpList_plain hgd fun K hK => ?_
    unfold Oper.wp execOp
    simp only [List.length_nil] at hx
    simp only [ho, resolve, invoke, builtin, Sem.run_bind, Sem.run_pure, Result.andThen_ok, List.map_toArray, List.map_cons, List.map_nil, hs, hx, hrun]
    exact hK _ _ (h _ _ HO HB ⟨rfl, rfl, rfl, Nat.le_refl _, fun _ _ _ => rfl⟩ ⟨g, cap, rfl⟩)
  · obtain ⟨ad, rfl, hcell⟩ := hrd.2.2 h0
    refine M_append2 (w0 := w0) b0 base hb0 hgd s x t e (.int .u8 0) ho ht hinfo rfl _ [] ad xs.length c (encs (Value.int .u8) xs) hs hx (by simp [encs]) (fun j u hj => ?_) (fun u hu => ?_) HO HB hbase (by simpa using hl) (fun v1 w1 h1 h2 h3 => h v1 w1 (by simpa using h1) h2 h3 ?_)
    · have hj' : j < xs.length := by
        have := (List.getElem?_eq_some_iff.1 hj).1
        simpa [encs] using this
      rw [hcell j hj']
      simp [encs, hj'] at hj
      simp [hj', hj]
    · simp only [encs, List.mem_map] at hu
      obtain ⟨q, _, rfl⟩ := hu
      rfl
    · exact own_form h1 _ (by simp [encs]) h0
theorem HK8 {W : World} {base e : Nat} {g n cap : Nat} {xs : List Int} (h : OwnM W base e (.slice (some ⟨g, 0, none⟩) n cap) (encs (Value.int .u8) xs)) (hl : xs.length = n) : n ≤ cap ∧ base ≤ g ∧ g < W.heap.size := by
  refine ⟨?_, h.lt g rfl⟩
  rcases h with ⟨h, _⟩ | ⟨g', cap', cur, fz, h, _, _, _, h1, _⟩
  · cases h
  · injection h with _ h2 h3
    omega
theorem hashS_calls (A : Option Addr) (c : Nat) (xs : List Int) (w : World) (hr : (Kd.int .u8).C w A xs.length xs) (hs : xs.length ≤ 1099511627776) :
    Calls Tryd.prog 12 #[.slice A xs.length c] w fun e w' => e = .returned (.string (shaB xs)) ∧ Below w.heap.size w w' := by
  have HR := Aside0.mk hr
  clear hr
  go_enter Tryd.func12, Tryd.ntmps12
  go_wp2_with (first | ((with_reducible refine gate_dst (N := 13) rfl ?_); at_builtin; refine halt_ ?_))
  refine ⟨?_⟩
  have hH0 : (w.alloc (.cells #[.int .u32 1779033703, .int .u32 3144134277, .int .u32 1013904242, .int .u32 2773480762, .int .u32 1359893119, .int .u32 2600822924, .int .u32 528734635, .int .u32 1541459225] 64)).heap[w.heap.size]? = some (.cells (enc32 sha0).toArray 64 (0, 0)) := heap_new w _
  have hb0 : Below w.heap.size w (w.alloc (.cells #[.int .u32 1779033703, .int .u32 3144134277, .int .u32 1013904242, .int .u32 2773480762, .int .u32 1359893119, .int .u32 2600822924, .int .u32 528734635, .int .u32 1541459225] 64)) := (Below.refl _ _).alloc (Nat.le_refl _) _
  have hz0 : (w.alloc (.cells #[.int .u32 1779033703, .int .u32 3144134277, .int .u32 1013904242, .int .u32 2773480762, .int .u32 1359893119, .int .u32 2600822924, .int .u32 528734635, .int .u32 1541459225] 64)).heap.size = w.heap.size + 1 := by simp
  generalize (w.alloc (.cells #[.int .u32 1779033703, .int .u32 3144134277, .int .u32 1013904242, .int .u32 2773480762, .int .u32 1359893119, .int .u32 2600822924, .int .u32 528734635, .int .u32 1541459225] 64)) = wa at hH0 hb0 hz0 ⊢
  have hH1 := blk_alloc hH0 (.cells #[] 5)
  have hb1 := hb0.alloc hb0.size (.cells #[] 5)
  have hN := heap_new wa (.cells #[] 5)
  rw [hz0] at hN
  have hz1 : (wa.alloc (.cells #[] 5)).heap.size = w.heap.size + 1 + 1 := by simp [hz0]
  generalize (wa.alloc (.cells #[] 5)) = wb at hH1 hb1 hN hz1 ⊢
  clear hH0 hb0 hz0
  refine M_append_read (w0 := w) w.heap.size (w.heap.size + 1) (Nat.le_succ _) rfl (.tmp 11) (.tmp 12) 40 5 rfl Tryd.underlying40 (by kernel_rfl) (w.heap.size + 1) 0 A c xs rfl rfl (Kd.C_below HR.out hb1)
    (.inr ⟨w.heap.size + 1, 0, #[], (0, 0), rfl, Nat.le_refl _, hN, Free.none _, Nat.le_refl _, Nat.zero_le _, rfl, rfl⟩) hb1 (by omega) (by omega) ?_
  intro v1 w1 ho1 hb2 hg1 hv1
  obtain ⟨g1, c1, rfl⟩ := hv1
  have hH2 := (hg1.block w.heap.size (blk_lt hH1) (by simp)).trans hH1
  have HH := Aside0.mk (blk_alloc hH2 (.cells #[.int .u8 128] 5))
  have hs2 : w.heap.size + 1 ≤ w1.heap.size := by have := hg1.size; omega
  have HO := Aside0.mk (own_alloc ho1 (.cells #[.int .u8 128] 5))
  have HB := Aside0.mk (hb2.alloc hb2.size (.cells #[.int .u8 128] 5))
  clear hH1 hH2 hb1 hN ho1 hb2 hg1
  go_wp2_with (first | ((with_reducible refine gate_dst (N := 15) rfl ?_); at_builtin; refine halt_ ?_))
  refine ⟨?_⟩
  refine M_append2 (w0 := w) w.heap.size (w.heap.size + 1) (Nat.le_succ _) rfl (.tmp 13) (.tmp 14) 40 5 (.int .u8 0) rfl Tryd.underlying40 (by kernel_rfl) rfl (.slice (some ⟨g1, 0, none⟩) xs.length c1) (encs (Value.int .u8) xs) _ 1 1 [.int .u8 128] rfl rfl rfl (new_cell _ _ _) (by simp [Value.oneCell']) HO.out HB.out (by simp; omega) (by simp [encs]; omega) ?_
  intro v2 w2 ho2 hb2 hg2
  have hgg1 := (HO.out.lt g1 rfl).1
  have HH2 := Aside0.mk ((hg2.block w.heap.size (blk_lt HH.out) (by simp [Value.ownBlock]; omega)).trans HH.out)
  have hl2 : (encs (Value.int .u8) xs ++ [Value.int .u8 128]).length = xs.length + 1 := by simp [encs]
  generalize hx2 : encs (Value.int .u8) xs ++ [Value.int .u8 128] = x2 at ho2 hl2
  obtain ⟨g2, cap2, rfl⟩ := own_form ho2 _ hl2 (by omega)
  have HX2 := Aside0.mk hx2
  have HL2 := Aside0.mk hl2
  have HO2 := Aside0.mk ho2
  have HB2 := Aside0.mk hb2
  clear HO HB HH hgg1 hg2 ho2 hb2 hx2 hl2 hs2 hz1
  go_wp2
  go_loopw [4] (fun v wr => ∃ (m L g cap : Nat), m ≤ padN (xs.length + 1) ∧ L = xs.length + 1 + m ∧ v = .slice (some ⟨g, 0, none⟩) L cap ∧ OwnM wr (w.heap.size + 1) 5 v (x2 ++ List.replicate m (.int .u8 0)) ∧ Below w.heap.size w wr ∧ w.heap.size < wr.heap.size ∧ wr.heap[w.heap.size]? = some (.cells (enc32 sha0).toArray 64 (0, 0))) (fun v _ => padN (xs.length + 1) + xs.length + 1 - lenOf v)
  case atStart => exact ⟨0, xs.length + 1, g2, cap2, Nat.zero_le _, rfl, rfl, by simpa using HO2.out, HB2.out, blk_lt HH2.out, HH2.out⟩
  case round =>
    clear HO2 HB2 HH2
    obtain ⟨m, L, g, cap, hm, hL, rfl, ho, hb, hsz, hh⟩ := hrel
    have HO := Aside0.mk ho
    have HB := Aside0.mk hb
    have HL := Aside0.mk hL
    have HH := Aside0.mk hh
    have hiff := pad_stepB L xs.length m hL hm
    clear ho hb hL hh
    by_cases hq : m = padN (xs.length + 1)
    · have hq1 : ((L : Int) % 64 != 56) = false := by rw [hiff.2 hq]; rfl
      clear hiff
      go_wp2
      have hx3 : x2 ++ List.replicate m (Value.int .u8 0) = encs (Value.int .u8) (xs ++ [128] ++ List.replicate (padN (xs.length + 1)) 0) := by
        rw [← HX2.out, hq]; simp [encs]
      have HO3 := HO.out
      rw [hx3] at HO3
      replace HO := Aside0.mk HO3
      clear HO3 hx3
      have hq2 := Aside0.mk hq
      have hL64 := Aside0.mk (show L % 64 = 56 by have := HL.out; unfold padN at hq; omega)
      clear hq hq1
      go_loopw [4, 5] (fun v v5 wr => ∃ (k g cap : Nat), k ≤ 8 ∧ v5 = .int .i64 ((k : Int) - 1) ∧ v = .slice (some ⟨g, 0, none⟩) (L + (8 - k)) cap ∧ OwnM wr (w.heap.size + 1) 5 v (encs (Value.int .u8) (xs ++ [128] ++ List.replicate (padN (xs.length + 1)) 0 ++ (len8 (8 * (xs.length : Int))).take (8 - k))) ∧ Below w.heap.size w wr ∧ w.heap.size < wr.heap.size ∧ wr.heap[w.heap.size]? = some (.cells (enc32 sha0).toArray 64 (0, 0))) (fun _ v5 _ => (intOf v5 + 1).toNat)
      case atStart => exact ⟨8, g, cap, Nat.le_refl _, rfl, rfl, by simpa using HO.out, HB.out, hsz, HH.out⟩
      case round =>
        clear HO HB HH hsz
        obtain ⟨k, g, cap, hk, rfl, rfl, ho, hb, hsz, hh⟩ := hrel
        have HO := Aside0.mk ho
        have HB := Aside0.mk hb
        have HH := Aside0.mk hh
        clear ho hb hh
        by_cases hz : k = 0
        · subst hz
          go_wp2
          have hk8 : (padB xs).length = L + 8 := by have := HL.out; have := hq2.out; simp [padB, len8]; omega
          have hxB : xs ++ [128] ++ List.replicate (padN (xs.length + 1)) 0 ++ (len8 (8 * (xs.length : Int))).take (8 - 0) = padB xs := by simp [padB, len8]
          have hO := HO.out
          rw [hxB] at hO
          have hN := heap_new wr (.cells (enc32 roundK).toArray 64)
          have hOa := own_alloc hO (.cells (enc32 roundK).toArray 64)
          have hBa := HB.out.alloc HB.out.size (.cells (enc32 roundK).toArray 64)
          have hHa := blk_alloc HH.out (.cells (enc32 roundK).toArray 64)
          have hgk : w.heap.size < wr.heap.size := hsz
          have hE : (enc32 roundK).toArray = #[Value.int .u32 1116352408, Value.int .u32 1899447441, Value.int .u32 3049323471, Value.int .u32 3921009573, Value.int .u32 961987163, Value.int .u32 1508970993, Value.int .u32 2453635748, Value.int .u32 2870763221, Value.int .u32 3624381080, Value.int .u32 310598401, Value.int .u32 607225278, Value.int .u32 1426881987, Value.int .u32 1925078388, Value.int .u32 2162078206, Value.int .u32 2614888103, Value.int .u32 3248222580, Value.int .u32 3835390401, Value.int .u32 4022224774, Value.int .u32 264347078, Value.int .u32 604807628, Value.int .u32 770255983, Value.int .u32 1249150122, Value.int .u32 1555081692, Value.int .u32 1996064986, Value.int .u32 2554220882, Value.int .u32 2821834349, Value.int .u32 2952996808, Value.int .u32 3210313671, Value.int .u32 3336571891, Value.int .u32 3584528711, Value.int .u32 113926993, Value.int .u32 338241895, Value.int .u32 666307205, Value.int .u32 773529912, Value.int .u32 1294757372, Value.int .u32 1396182291, Value.int .u32 1695183700, Value.int .u32 1986661051, Value.int .u32 2177026350, Value.int .u32 2456956037, Value.int .u32 2730485921, Value.int .u32 2820302411, Value.int .u32 3259730800, Value.int .u32 3345764771, Value.int .u32 3516065817, Value.int .u32 3600352804, Value.int .u32 4094571909, Value.int .u32 275423344, Value.int .u32 430227734, Value.int .u32 506948616, Value.int .u32 659060556, Value.int .u32 883997877, Value.int .u32 958139571, Value.int .u32 1322822218, Value.int .u32 1537002063, Value.int .u32 1747873779, Value.int .u32 1955562222, Value.int .u32 2024104815, Value.int .u32 2227730452, Value.int .u32 2361852424, Value.int .u32 2428436474, Value.int .u32 2756734187, Value.int .u32 3204031479, Value.int .u32 3329325298] := rfl
          rw [hE] at hN hOa hBa hHa
          have HN := Aside0.mk hN
          have HOa := Aside0.mk hOa
          have HBa := Aside0.mk hBa
          have HHa := Aside0.mk hHa
          clear hN hOa hBa hHa hE HO HB HH hO hxB hsz
          go_wp2
          generalize (wr.alloc (.cells #[Value.int .u32 1116352408, Value.int .u32 1899447441, Value.int .u32 3049323471, Value.int .u32 3921009573, Value.int .u32 961987163, Value.int .u32 1508970993, Value.int .u32 2453635748, Value.int .u32 2870763221, Value.int .u32 3624381080, Value.int .u32 310598401, Value.int .u32 607225278, Value.int .u32 1426881987, Value.int .u32 1925078388, Value.int .u32 2162078206, Value.int .u32 2614888103, Value.int .u32 3248222580, Value.int .u32 3835390401, Value.int .u32 4022224774, Value.int .u32 264347078, Value.int .u32 604807628, Value.int .u32 770255983, Value.int .u32 1249150122, Value.int .u32 1555081692, Value.int .u32 1996064986, Value.int .u32 2554220882, Value.int .u32 2821834349, Value.int .u32 2952996808, Value.int .u32 3210313671, Value.int .u32 3336571891, Value.int .u32 3584528711, Value.int .u32 113926993, Value.int .u32 338241895, Value.int .u32 666307205, Value.int .u32 773529912, Value.int .u32 1294757372, Value.int .u32 1396182291, Value.int .u32 1695183700, Value.int .u32 1986661051, Value.int .u32 2177026350, Value.int .u32 2456956037, Value.int .u32 2730485921, Value.int .u32 2820302411, Value.int .u32 3259730800, Value.int .u32 3345764771, Value.int .u32 3516065817, Value.int .u32 3600352804, Value.int .u32 4094571909, Value.int .u32 275423344, Value.int .u32 430227734, Value.int .u32 506948616, Value.int .u32 659060556, Value.int .u32 883997877, Value.int .u32 958139571, Value.int .u32 1322822218, Value.int .u32 1537002063, Value.int .u32 1747873779, Value.int .u32 1955562222, Value.int .u32 2024104815, Value.int .u32 2227730452, Value.int .u32 2361852424, Value.int .u32 2428436474, Value.int .u32 2756734187, Value.int .u32 3204031479, Value.int .u32 3329325298] 64)) = w5 at HN HOa HBa HHa ⊢
          generalize wr.heap.size = gk at HN hgk ⊢
          have hC := HK8 HOa.out hk8
          try simp only [Array.getD_eq_getD_getElem?]
          clear hk
          have hn64 : (L + 8) % 64 = 0 := by have := hL64.out; omega
          have hxl := Aside0.mk hk8
          have HC := Aside0.mk hC
          have hgk1 := Aside0.mk hgk
          clear hk8 hC hgk
          go_loopw [7] (fun v wr => ∃ (i : Nat) (hv : List Int), 64 * i ≤ L + 8 ∧ v = .int .i64 ((64 * i : Nat) : Int) ∧ wr.heap[w.heap.size]? = some (.cells (enc32 hv).toArray 64 (0, 0)) ∧ hv.length = 8 ∧ OwnM wr (w.heap.size + 1) 5 (.slice (some ⟨g, 0, none⟩) (L + 8) cap) (encs (Value.int .u8) (padB xs)) ∧ Below w.heap.size w wr ∧ wr.heap[gk]? = some (.cells (enc32 roundK).toArray 64 (0, 0)) ∧ Aside0 (blocks ((L + 8) / 64 - i) i hv (padB xs) = blocks ((L + 8) / 64) 0 sha0 (padB xs))) (fun v _ => L + 8 - (intOf v).toNat)
          case atStart => exact ⟨0, sha0, by omega, rfl, HHa.out, rfl, HOa.out, HBa.out, HN.out, ⟨rfl⟩⟩
          case round =>
            clear HN HOa HBa HHa
            obtain ⟨i, hv, hi, rfl, hh, hvl, ho, hb, hn, hf⟩ := hrel
            have HO := Aside0.mk ho
            have HB := Aside0.mk hb
            have HH := Aside0.mk hh
            have HN := Aside0.mk hn
            clear ho hb hh hn
            generalize hI : 64 * i = I at hi
            have hI2 := Aside0.mk hI
            by_cases hlt : I < L + 8
            · have p0 : ((I : Int) < (L : Int) + 8) = True := eq_true (by omega)
              have hcp := HC.out.1
              have p1 : ((I : Int) + 64 ≤ (cap : Int)) = True := eq_true (by omega)
              have p2 : (0 ≤ (I : Int) + 64) = True := eq_true (by omega)
              have p3 : (I + 64 ≤ cap) = True := eq_true (by omega)
              have e0 : ((I : Int) + 64).toNat = I + 64 := by omega
              have p4 : (I ≤ I + 64) = True := eq_true (by omega)
              have q0 := wr64 ((I : Int) + 64) (by omega) (by have := HC.out.1; have := HL.out; unfold padN at hm; omega)
              clear hI
              go_wp2_with (first | (go_at_call 26; refine halt_ ?_))
              refine ⟨?_⟩
              have hgl := HO.out.lt g rfl
              have hI64 : 64 * i + 64 ≤ (padB xs).length := by
                have h1 := hxl.out
                have h2 := hI2.out
                omega
              have hcells := pad_cells HO.out i hI64
              rw [hI2.out] at hcells
              refine (blockS_calls hv (((padB xs).drop I).take 64) w.heap.size g I (cap - I) gk 64 wr HH.out hvl hcells hgl.2 (by omega) (fun j hj => (blk_cell HN.out j).trans (enc_get roundK j hj)) (blk_lt HN.out) (by have := hgk1.out; omega)).mono ?_
              rintro e w5 ⟨rfl, hg5, hh5⟩
              have hX : (shaBlock hv (((padB xs).drop I).take 64)).length = 8 := block_length _ _ hvl
              have HO5 := Aside0.mk (OwnM.kept HO.out (fun k hk => hg5.block k (HO.out.lt k hk).2 (fun he => by injection he with he; have := (HO.out.lt k hk).1; omega)))
              have HB5 := Aside0.mk (HB.out.grown hg5 HB.out.size (fun k hk => by injection hk with hk; omega))
              have HN5 := Aside0.mk ((hg5.block gk (blk_lt HN.out) (fun he => by injection he with he; have := hgk1.out; omega)).trans HN.out)
              have hfn : Aside0 (blocks ((L + 8) / 64 - (i + 1)) (i + 1) (shaBlock hv (((padB xs).drop I).take 64)) (padB xs) = blocks ((L + 8) / 64) 0 sha0 (padB xs)) := ⟨by
                rw [← hf.out, show (L + 8) / 64 - i = (L + 8) / 64 - (i + 1) + 1 by have := hI2.out; omega, blocks, hI2.out]⟩
              have HH5 := Aside0.mk hh5
              clear HO HB HH HN hg5 hh5 hf hcells hI64
              have q1 : (I + 64 : Nat) = 64 * (i + 1) := by have := hI2.out; omega
              have Q1 := Aside0.mk q1
              clear q1
              go_wp2
              refine ⟨⟨i + 1, _, by have := Q1.out; omega, by rw [← Q1.out]; simp, HH5.out, hX, HO5.out, HB5.out, HN5.out, hfn⟩, ?_⟩
              simp [intOf]; omega
            ·
              have p0 : ((I : Int) < (L : Int) + 8) = False := eq_false (by omega)
              have hvE : blocks ((padB xs).length / 64) 0 sha0 (padB xs) = hv := by
                have h1 := hI2.out
                rw [hxl.out, ← hf.out, show (L + 8) / 64 - i = 0 by omega]
                rfl
              have HV := Aside0.mk hvE
              clear hvE hf hI hI2 HN HO
              have HO := Aside0.mk (show (wr.alloc (.cells #[] 5)).ownsRow (w.heap.size + 1) 5 1 (.slice (some ⟨wr.heap.size, 0, none⟩) 0 0) 0 [] from ⟨rfl, .inr ⟨wr.heap.size, 0, #[], rfl, blk_lt HH.out, heap_new wr _, Nat.le_refl _, Nat.zero_le _, rfl, rfl⟩⟩)
              have HBa := Aside0.mk (HB.out.alloc HB.out.size (.cells #[] 5))
              have HHa := Aside0.mk (blk_alloc HH.out (.cells #[] 5))
              clear HB HH
              go_wp2
              go_loopw [8, 9] (fun v v9 wr => ∃ (k g cap : Nat), k ≤ 8 ∧ v9 = .int .i64 (k : Int) ∧ v = .slice (some ⟨g, 0, none⟩) (4 * k) cap ∧ wr.ownsRow (w.heap.size + 1) 5 1 v (4 * k) (nums .u8 (out4 hv k)) ∧ Below w.heap.size w wr ∧ wr.heap[w.heap.size]? = some (.cells (enc32 hv).toArray 64 (0, 0))) (fun _ v9 _ => 8 - (intOf v9).toNat)
              case atStart => exact ⟨0, _, 0, Nat.zero_le _, rfl, rfl, HO.out, HBa.out, HHa.out⟩
              case round =>
                clear HO HBa HHa
                obtain ⟨k, g, cap, hk, rfl, rfl, ho, hb, hh⟩ := hrel
                have HO := Aside0.mk ho
                have HB := Aside0.mk hb
                have HH := Aside0.mk hh
                clear ho hb hh
                by_cases hlt : k < 8
                · have p8 : ((k : Int) < 8) = True := eq_true (by omega)
                  have p9 : (k < 8) = True := eq_true (by omega)
                  obtain ⟨i0, hi0, hz0, hz1, hz2⟩ := info_parts (show (Tryd.prog.info? 5).map (fun i => (i.zero, i.size, i.bytes)) = some (some (.int .u8 0), 1, 1) by kernel_rfl)
                  have c0 := (blk_cell HH.out k).trans (enc_get hv k (by omega))
                  have hne : (some w.heap.size : Option Nat) ≠ (Value.slice (some ⟨g, 0, none⟩) (4 * k) cap).ownBlock := by
                    have h1 := (HO.out.lt g rfl).1
                    simp [Value.ownBlock]; omega
                  have hlw : w.heap.size < wr.heap.size := blk_lt HH.out
                  have hk0 : (0 : Int) ≤ (k : Int) := Int.natCast_nonneg _
                  have hk1 : (k : Int) < 8 := by omega
                  have hsz := HB.out.size
                  go_wp2
                  go_region_held3 (fun w' => w'.cell? ⟨w.heap.size, k, none⟩ = some (.int .u32 (nth hv k)))
                    (first | go_keep | (rw [hgrow.cell_far _ (by simp; omega) hne]; assumption))
                    ((refine step_append_lies _ (by rfl) _ _ _ (by rfl) (w.heap.size + 1) 5 i0 _ 1 1 Tryd.underlying40 hi0 hz0 hz1 hz2 rfl (by omega) (.slice (some ⟨g, 0, none⟩) (4 * k) cap) (4 * k) (nums .u8 (out4 hv k)) (by rfl) ((HO.out.alloc _).drew)
                        ⟨wr.heap.size, 0, none⟩ 4 4 [.int .u8 (nth hv k / 16777216 % 256), .int .u8 (nth hv k / 65536 % 256), .int .u8 (nth hv k / 256 % 256), .int .u8 (nth hv k % 256)] (by rfl) (by rfl) (World.news_of_block (cs := #[.int .u8 (nth hv k / 16777216 % 256), .int .u8 (nth hv k / 65536 % 256), .int .u8 (nth hv k / 256 % 256), .int .u8 (nth hv k % 256)]) (t := 5) (fr := (0, 0)) (heap_alloc_new wr _)) (by simp [Value.oneCell'])
                        (by omega) (by simp only [maxLen]; omega) (by omega) (by simp; omega) (wr.heap.size + 1) (by simp) ?_; intro gg cap1 w1 hown1 hgrow hat hlt1))
                  have hB1 := Aside0.mk (((HB.out.alloc HB.out.size (.cells #[.int .u8 (nth hv k / 16777216 % 256), .int .u8 (nth hv k / 65536 % 256), .int .u8 (nth hv k / 256 % 256), .int .u8 (nth hv k % 256)] 5)).drew).grown hgrow (by simp; omega) (fun q hq => by
                    have : g = q := by simpa [Value.ownBlock] using hq
                    have := (HO.out.lt g rfl).1
                    omega))
                  have hh1 := Aside0.mk ((hgrow.block w.heap.size (by simp; omega) hne).trans (blk_alloc HH.out (.cells #[.int .u8 (nth hv k / 16777216 % 256), .int .u8 (nth hv k / 65536 % 256), .int .u8 (nth hv k / 256 % 256), .int .u8 (nth hv k % 256)] 5)))
                  have ho1 := Aside0.mk hown1
                  clear hgrow HO HB HH c0 hown1
                  go_wp2
                  refine ⟨⟨k + 1, gg, cap1, by omega, by simp, rfl, ?_, hB1.out, hh1.out⟩, ?_⟩
                  · have h1 := ho1.out
                    have h2 : nums .u8 (out4 hv (k + 1)) = nums .u8 (out4 hv k) ++ [.int .u8 (nth hv k / 16777216 % 256), .int .u8 (nth hv k / 65536 % 256), .int .u8 (nth hv k / 256 % 256), .int .u8 (nth hv k % 256)] := by simp [out4, nums]
                    rw [h2]
                    exact h1
                  · simp [intOf]; omega
                · obtain rfl : k = 8 := by omega
                  have hcv := own_string (P := Tryd.prog) (src := 40) (dst := 9) Tryd.underlying40 Tryd.underlying5 Tryd.underlying9 (ownsRowM.of HO.out)
                  have hfin : strOfNums (out4 hv 8) = shaB xs := by rw [shaB, HV.out]
                  have HF := Aside0.mk hfin
                  clear hfin
                  go_wp2
                  go_ret
                  exact ⟨congrArg (fun x => Ending.returned (.string x)) HF.out, HB.out⟩
        · have hw8 := wr64 (8 * (xs.length : Int)) (by omega) (by omega)
          have hkk : k = 1 ∨ k = 2 ∨ k = 3 ∨ k = 4 ∨ k = 5 ∨ k = 6 ∨ k = 7 ∨ k = 8 := by omega
          rcases hkk with rfl | rfl | rfl | rfl | rfl | rfl | rfl | rfl
          · go_wp2_with (first | ((with_reducible refine gate_dst (N := 37) rfl ?_); at_builtin; refine halt_ ?_))
            refine ⟨?_⟩
            have HHa := Aside0.mk (blk_alloc HH.out (.cells #[.int .u8 (8 * (xs.length : Int) % 256)] 5))
            have HOa := Aside0.mk (own_alloc HO.out (.cells #[.int .u8 (8 * (xs.length : Int) % 256)] 5))
            refine M_append2 (w0 := w) w.heap.size (w.heap.size + 1) (Nat.le_succ _) rfl (.tmp 27) (.tmp 36) 40 5 (.int .u8 0) rfl Tryd.underlying40 (by kernel_rfl) rfl (.slice (some ⟨g, 0, none⟩) (L + (8 - 1)) cap) (encs (Value.int .u8) (xs ++ [128] ++ List.replicate (padN (xs.length + 1)) 0 ++ (len8 (8 * (xs.length : Int))).take (8 - 1))) _ 1 1 [.int .u8 (8 * (xs.length : Int) % 256)] rfl rfl rfl (new_cell _ _ _) (by simp [Value.oneCell']) HOa.out (HB.out.alloc HB.out.size _) (by simp; omega) (by have := HL.out; simp [encs, len8]; unfold padN at hm ⊢; omega) ?_
            intro v2 w2 ho2 hb2 hg2
            have hgg := (HOa.out.lt g rfl).1
            have hh2 := (hg2.block w.heap.size (blk_lt HHa.out) (by simp [Value.ownBlock]; omega)).trans HHa.out
            have he2 : encs (Value.int .u8) (xs ++ [128] ++ List.replicate (padN (xs.length + 1)) 0 ++ (len8 (8 * (xs.length : Int))).take (8 - 1)) ++ [Value.int .u8 (8 * (xs.length : Int) % 256)] = encs (Value.int .u8) (xs ++ [128] ++ List.replicate (padN (xs.length + 1)) 0 ++ (len8 (8 * (xs.length : Int))).take (8 - 0)) := by simp [encs, len8]
            rw [he2] at ho2
            obtain ⟨g3, cap3, rfl⟩ := own_form ho2 (L + (8 - 0)) (by have := HL.out; have := hq2.out; simp [encs, len8]; omega) (by omega)
            clear HO HB HH HHa HOa hg2 hsz he2
            go_wp2
            exact ⟨⟨0, g3, cap3, by omega, by simp, rfl, ho2, hb2, blk_lt hh2, hh2⟩, by simp [intOf]⟩
          · go_wp2_with (first | ((with_reducible refine gate_dst (N := 37) rfl ?_); at_builtin; refine halt_ ?_))
            refine ⟨?_⟩
            have HHa := Aside0.mk (blk_alloc HH.out (.cells #[.int .u8 (8 * (xs.length : Int) / 256 % 256)] 5))
            have HOa := Aside0.mk (own_alloc HO.out (.cells #[.int .u8 (8 * (xs.length : Int) / 256 % 256)] 5))
            refine M_append2 (w0 := w) w.heap.size (w.heap.size + 1) (Nat.le_succ _) rfl (.tmp 27) (.tmp 36) 40 5 (.int .u8 0) rfl Tryd.underlying40 (by kernel_rfl) rfl (.slice (some ⟨g, 0, none⟩) (L + (8 - 2)) cap) (encs (Value.int .u8) (xs ++ [128] ++ List.replicate (padN (xs.length + 1)) 0 ++ (len8 (8 * (xs.length : Int))).take (8 - 2))) _ 1 1 [.int .u8 (8 * (xs.length : Int) / 256 % 256)] rfl rfl rfl (new_cell _ _ _) (by simp [Value.oneCell']) HOa.out (HB.out.alloc HB.out.size _) (by simp; omega) (by have := HL.out; simp [encs, len8]; unfold padN at hm ⊢; omega) ?_
            intro v2 w2 ho2 hb2 hg2
            have hgg := (HOa.out.lt g rfl).1
            have hh2 := (hg2.block w.heap.size (blk_lt HHa.out) (by simp [Value.ownBlock]; omega)).trans HHa.out
            have he2 : encs (Value.int .u8) (xs ++ [128] ++ List.replicate (padN (xs.length + 1)) 0 ++ (len8 (8 * (xs.length : Int))).take (8 - 2)) ++ [Value.int .u8 (8 * (xs.length : Int) / 256 % 256)] = encs (Value.int .u8) (xs ++ [128] ++ List.replicate (padN (xs.length + 1)) 0 ++ (len8 (8 * (xs.length : Int))).take (8 - 1)) := by simp [encs, len8]
            rw [he2] at ho2
            obtain ⟨g3, cap3, rfl⟩ := own_form ho2 (L + (8 - 1)) (by have := HL.out; have := hq2.out; simp [encs, len8]; omega) (by omega)
            clear HO HB HH HHa HOa hg2 hsz he2
            go_wp2
            exact ⟨⟨1, g3, cap3, by omega, by simp, rfl, ho2, hb2, blk_lt hh2, hh2⟩, by simp [intOf]⟩
          · go_wp2_with (first | ((with_reducible refine gate_dst (N := 37) rfl ?_); at_builtin; refine halt_ ?_))
            refine ⟨?_⟩
            have HHa := Aside0.mk (blk_alloc HH.out (.cells #[.int .u8 (8 * (xs.length : Int) / 65536 % 256)] 5))
            have HOa := Aside0.mk (own_alloc HO.out (.cells #[.int .u8 (8 * (xs.length : Int) / 65536 % 256)] 5))
            refine M_append2 (w0 := w) w.heap.size (w.heap.size + 1) (Nat.le_succ _) rfl (.tmp 27) (.tmp 36) 40 5 (.int .u8 0) rfl Tryd.underlying40 (by kernel_rfl) rfl (.slice (some ⟨g, 0, none⟩) (L + (8 - 3)) cap) (encs (Value.int .u8) (xs ++ [128] ++ List.replicate (padN (xs.length + 1)) 0 ++ (len8 (8 * (xs.length : Int))).take (8 - 3))) _ 1 1 [.int .u8 (8 * (xs.length : Int) / 65536 % 256)] rfl rfl rfl (new_cell _ _ _) (by simp [Value.oneCell']) HOa.out (HB.out.alloc HB.out.size _) (by simp; omega) (by have := HL.out; simp [encs, len8]; unfold padN at hm ⊢; omega) ?_
            intro v2 w2 ho2 hb2 hg2
            have hgg := (HOa.out.lt g rfl).1
            have hh2 := (hg2.block w.heap.size (blk_lt HHa.out) (by simp [Value.ownBlock]; omega)).trans HHa.out
            have he2 : encs (Value.int .u8) (xs ++ [128] ++ List.replicate (padN (xs.length + 1)) 0 ++ (len8 (8 * (xs.length : Int))).take (8 - 3)) ++ [Value.int .u8 (8 * (xs.length : Int) / 65536 % 256)] = encs (Value.int .u8) (xs ++ [128] ++ List.replicate (padN (xs.length + 1)) 0 ++ (len8 (8 * (xs.length : Int))).take (8 - 2)) := by simp [encs, len8]
            rw [he2] at ho2
            obtain ⟨g3, cap3, rfl⟩ := own_form ho2 (L + (8 - 2)) (by have := HL.out; have := hq2.out; simp [encs, len8]; omega) (by omega)
            clear HO HB HH HHa HOa hg2 hsz he2
            go_wp2
            exact ⟨⟨2, g3, cap3, by omega, by simp, rfl, ho2, hb2, blk_lt hh2, hh2⟩, by simp [intOf]⟩
          · go_wp2_with (first | ((with_reducible refine gate_dst (N := 37) rfl ?_); at_builtin; refine halt_ ?_))
            refine ⟨?_⟩
            have HHa := Aside0.mk (blk_alloc HH.out (.cells #[.int .u8 (8 * (xs.length : Int) / 16777216 % 256)] 5))
            have HOa := Aside0.mk (own_alloc HO.out (.cells #[.int .u8 (8 * (xs.length : Int) / 16777216 % 256)] 5))
            refine M_append2 (w0 := w) w.heap.size (w.heap.size + 1) (Nat.le_succ _) rfl (.tmp 27) (.tmp 36) 40 5 (.int .u8 0) rfl Tryd.underlying40 (by kernel_rfl) rfl (.slice (some ⟨g, 0, none⟩) (L + (8 - 4)) cap) (encs (Value.int .u8) (xs ++ [128] ++ List.replicate (padN (xs.length + 1)) 0 ++ (len8 (8 * (xs.length : Int))).take (8 - 4))) _ 1 1 [.int .u8 (8 * (xs.length : Int) / 16777216 % 256)] rfl rfl rfl (new_cell _ _ _) (by simp [Value.oneCell']) HOa.out (HB.out.alloc HB.out.size _) (by simp; omega) (by have := HL.out; simp [encs, len8]; unfold padN at hm ⊢; omega) ?_
            intro v2 w2 ho2 hb2 hg2
            have hgg := (HOa.out.lt g rfl).1
            have hh2 := (hg2.block w.heap.size (blk_lt HHa.out) (by simp [Value.ownBlock]; omega)).trans HHa.out
            have he2 : encs (Value.int .u8) (xs ++ [128] ++ List.replicate (padN (xs.length + 1)) 0 ++ (len8 (8 * (xs.length : Int))).take (8 - 4)) ++ [Value.int .u8 (8 * (xs.length : Int) / 16777216 % 256)] = encs (Value.int .u8) (xs ++ [128] ++ List.replicate (padN (xs.length + 1)) 0 ++ (len8 (8 * (xs.length : Int))).take (8 - 3)) := by simp [encs, len8]
            rw [he2] at ho2
            obtain ⟨g3, cap3, rfl⟩ := own_form ho2 (L + (8 - 3)) (by have := HL.out; have := hq2.out; simp [encs, len8]; omega) (by omega)
            clear HO HB HH HHa HOa hg2 hsz he2
            go_wp2
            exact ⟨⟨3, g3, cap3, by omega, by simp, rfl, ho2, hb2, blk_lt hh2, hh2⟩, by simp [intOf]⟩
          · go_wp2_with (first | ((with_reducible refine gate_dst (N := 37) rfl ?_); at_builtin; refine halt_ ?_))
            refine ⟨?_⟩
            have HHa := Aside0.mk (blk_alloc HH.out (.cells #[.int .u8 (8 * (xs.length : Int) / 4294967296 % 256)] 5))
            have HOa := Aside0.mk (own_alloc HO.out (.cells #[.int .u8 (8 * (xs.length : Int) / 4294967296 % 256)] 5))
            refine M_append2 (w0 := w) w.heap.size (w.heap.size + 1) (Nat.le_succ _) rfl (.tmp 27) (.tmp 36) 40 5 (.int .u8 0) rfl Tryd.underlying40 (by kernel_rfl) rfl (.slice (some ⟨g, 0, none⟩) (L + (8 - 5)) cap) (encs (Value.int .u8) (xs ++ [128] ++ List.replicate (padN (xs.length + 1)) 0 ++ (len8 (8 * (xs.length : Int))).take (8 - 5))) _ 1 1 [.int .u8 (8 * (xs.length : Int) / 4294967296 % 256)] rfl rfl rfl (new_cell _ _ _) (by simp [Value.oneCell']) HOa.out (HB.out.alloc HB.out.size _) (by simp; omega) (by have := HL.out; simp [encs, len8]; unfold padN at hm ⊢; omega) ?_
            intro v2 w2 ho2 hb2 hg2
            have hgg := (HOa.out.lt g rfl).1
            have hh2 := (hg2.block w.heap.size (blk_lt HHa.out) (by simp [Value.ownBlock]; omega)).trans HHa.out
            have he2 : encs (Value.int .u8) (xs ++ [128] ++ List.replicate (padN (xs.length + 1)) 0 ++ (len8 (8 * (xs.length : Int))).take (8 - 5)) ++ [Value.int .u8 (8 * (xs.length : Int) / 4294967296 % 256)] = encs (Value.int .u8) (xs ++ [128] ++ List.replicate (padN (xs.length + 1)) 0 ++ (len8 (8 * (xs.length : Int))).take (8 - 4)) := by simp [encs, len8]
            rw [he2] at ho2
            obtain ⟨g3, cap3, rfl⟩ := own_form ho2 (L + (8 - 4)) (by have := HL.out; have := hq2.out; simp [encs, len8]; omega) (by omega)
            clear HO HB HH HHa HOa hg2 hsz he2
            go_wp2
            exact ⟨⟨4, g3, cap3, by omega, by simp, rfl, ho2, hb2, blk_lt hh2, hh2⟩, by simp [intOf]⟩
          · go_wp2_with (first | ((with_reducible refine gate_dst (N := 37) rfl ?_); at_builtin; refine halt_ ?_))
            refine ⟨?_⟩
            have HHa := Aside0.mk (blk_alloc HH.out (.cells #[.int .u8 (8 * (xs.length : Int) / 1099511627776)] 5))
            have HOa := Aside0.mk (own_alloc HO.out (.cells #[.int .u8 (8 * (xs.length : Int) / 1099511627776)] 5))
            refine M_append2 (w0 := w) w.heap.size (w.heap.size + 1) (Nat.le_succ _) rfl (.tmp 27) (.tmp 36) 40 5 (.int .u8 0) rfl Tryd.underlying40 (by kernel_rfl) rfl (.slice (some ⟨g, 0, none⟩) (L + (8 - 6)) cap) (encs (Value.int .u8) (xs ++ [128] ++ List.replicate (padN (xs.length + 1)) 0 ++ (len8 (8 * (xs.length : Int))).take (8 - 6))) _ 1 1 [.int .u8 (8 * (xs.length : Int) / 1099511627776)] rfl rfl rfl (new_cell _ _ _) (by simp [Value.oneCell']) HOa.out (HB.out.alloc HB.out.size _) (by simp; omega) (by have := HL.out; simp [encs, len8]; unfold padN at hm ⊢; omega) ?_
            intro v2 w2 ho2 hb2 hg2
            have hgg := (HOa.out.lt g rfl).1
            have hh2 := (hg2.block w.heap.size (blk_lt HHa.out) (by simp [Value.ownBlock]; omega)).trans HHa.out
            have he2 : encs (Value.int .u8) (xs ++ [128] ++ List.replicate (padN (xs.length + 1)) 0 ++ (len8 (8 * (xs.length : Int))).take (8 - 6)) ++ [Value.int .u8 (8 * (xs.length : Int) / 1099511627776)] = encs (Value.int .u8) (xs ++ [128] ++ List.replicate (padN (xs.length + 1)) 0 ++ (len8 (8 * (xs.length : Int))).take (8 - 5)) := by
              have hq : 8 * (xs.length : Int) / 1099511627776 % 256 = 8 * (xs.length : Int) / 1099511627776 := by omega
              simp [encs, len8, hq]
            rw [he2] at ho2
            obtain ⟨g3, cap3, rfl⟩ := own_form ho2 (L + (8 - 5)) (by have := HL.out; have := hq2.out; simp [encs, len8]; omega) (by omega)
            clear HO HB HH HHa HOa hg2 hsz he2
            go_wp2
            exact ⟨⟨5, g3, cap3, by omega, by simp, rfl, ho2, hb2, blk_lt hh2, hh2⟩, by simp [intOf]⟩
          · go_wp2_with (first | ((with_reducible refine gate_dst (N := 37) rfl ?_); at_builtin; refine halt_ ?_))
            refine ⟨?_⟩
            have HHa := Aside0.mk (blk_alloc HH.out (.cells #[.int .u8 (8 * (xs.length : Int) / 281474976710656)] 5))
            have HOa := Aside0.mk (own_alloc HO.out (.cells #[.int .u8 (8 * (xs.length : Int) / 281474976710656)] 5))
            refine M_append2 (w0 := w) w.heap.size (w.heap.size + 1) (Nat.le_succ _) rfl (.tmp 27) (.tmp 36) 40 5 (.int .u8 0) rfl Tryd.underlying40 (by kernel_rfl) rfl (.slice (some ⟨g, 0, none⟩) (L + (8 - 7)) cap) (encs (Value.int .u8) (xs ++ [128] ++ List.replicate (padN (xs.length + 1)) 0 ++ (len8 (8 * (xs.length : Int))).take (8 - 7))) _ 1 1 [.int .u8 (8 * (xs.length : Int) / 281474976710656)] rfl rfl rfl (new_cell _ _ _) (by simp [Value.oneCell']) HOa.out (HB.out.alloc HB.out.size _) (by simp; omega) (by have := HL.out; simp [encs, len8]; unfold padN at hm ⊢; omega) ?_
            intro v2 w2 ho2 hb2 hg2
            have hgg := (HOa.out.lt g rfl).1
            have hh2 := (hg2.block w.heap.size (blk_lt HHa.out) (by simp [Value.ownBlock]; omega)).trans HHa.out
            have he2 : encs (Value.int .u8) (xs ++ [128] ++ List.replicate (padN (xs.length + 1)) 0 ++ (len8 (8 * (xs.length : Int))).take (8 - 7)) ++ [Value.int .u8 (8 * (xs.length : Int) / 281474976710656)] = encs (Value.int .u8) (xs ++ [128] ++ List.replicate (padN (xs.length + 1)) 0 ++ (len8 (8 * (xs.length : Int))).take (8 - 6)) := by
              have hq : 8 * (xs.length : Int) / 281474976710656 % 256 = 8 * (xs.length : Int) / 281474976710656 := by omega
              simp [encs, len8, hq]
            rw [he2] at ho2
            obtain ⟨g3, cap3, rfl⟩ := own_form ho2 (L + (8 - 6)) (by have := HL.out; have := hq2.out; simp [encs, len8]; omega) (by omega)
            clear HO HB HH HHa HOa hg2 hsz he2
            go_wp2
            exact ⟨⟨6, g3, cap3, by omega, by simp, rfl, ho2, hb2, blk_lt hh2, hh2⟩, by simp [intOf]⟩
          · go_wp2_with (first | ((with_reducible refine gate_dst (N := 37) rfl ?_); at_builtin; refine halt_ ?_))
            refine ⟨?_⟩
            have HHa := Aside0.mk (blk_alloc HH.out (.cells #[.int .u8 (8 * (xs.length : Int) / 72057594037927936)] 5))
            have HOa := Aside0.mk (own_alloc HO.out (.cells #[.int .u8 (8 * (xs.length : Int) / 72057594037927936)] 5))
            refine M_append2 (w0 := w) w.heap.size (w.heap.size + 1) (Nat.le_succ _) rfl (.tmp 27) (.tmp 36) 40 5 (.int .u8 0) rfl Tryd.underlying40 (by kernel_rfl) rfl (.slice (some ⟨g, 0, none⟩) (L + (8 - 8)) cap) (encs (Value.int .u8) (xs ++ [128] ++ List.replicate (padN (xs.length + 1)) 0 ++ (len8 (8 * (xs.length : Int))).take (8 - 8))) _ 1 1 [.int .u8 (8 * (xs.length : Int) / 72057594037927936)] rfl rfl rfl (new_cell _ _ _) (by simp [Value.oneCell']) HOa.out (HB.out.alloc HB.out.size _) (by simp; omega) (by have := HL.out; simp [encs, len8]; unfold padN at hm ⊢; omega) ?_
            intro v2 w2 ho2 hb2 hg2
            have hgg := (HOa.out.lt g rfl).1
            have hh2 := (hg2.block w.heap.size (blk_lt HHa.out) (by simp [Value.ownBlock]; omega)).trans HHa.out
            have he2 : encs (Value.int .u8) (xs ++ [128] ++ List.replicate (padN (xs.length + 1)) 0 ++ (len8 (8 * (xs.length : Int))).take (8 - 8)) ++ [Value.int .u8 (8 * (xs.length : Int) / 72057594037927936)] = encs (Value.int .u8) (xs ++ [128] ++ List.replicate (padN (xs.length + 1)) 0 ++ (len8 (8 * (xs.length : Int))).take (8 - 7)) := by
              have hq : 8 * (xs.length : Int) / 72057594037927936 % 256 = 8 * (xs.length : Int) / 72057594037927936 := by omega
              simp [encs, len8, hq]
            rw [he2] at ho2
            obtain ⟨g3, cap3, rfl⟩ := own_form ho2 (L + (8 - 7)) (by have := HL.out; have := hq2.out; simp [encs, len8]; omega) (by omega)
            clear HO HB HH HHa HOa hg2 hsz he2
            go_wp2
            exact ⟨⟨7, g3, cap3, by omega, by simp, rfl, ho2, hb2, blk_lt hh2, hh2⟩, by simp [intOf]⟩
    · have hq1 : ((L : Int) % 64 != 56) = true := by simpa using fun h => hq (hiff.1 h)
      clear hiff
      go_wp2_with (first | ((with_reducible refine gate_dst (N := 22) rfl ?_); at_builtin; refine halt_ ?_))
      refine ⟨?_⟩
      have HHa := Aside0.mk (blk_alloc HH.out (.cells #[.int .u8 0] 5))
      have HOa := Aside0.mk (own_alloc HO.out (.cells #[.int .u8 0] 5))
      refine M_append2 (w0 := w) w.heap.size (w.heap.size + 1) (Nat.le_succ _) rfl (.tmp 20) (.tmp 21) 40 5 (.int .u8 0) rfl Tryd.underlying40 (by kernel_rfl) rfl (.slice (some ⟨g, 0, none⟩) L cap) (x2 ++ List.replicate m (.int .u8 0)) _ 1 1 [.int .u8 0] rfl rfl rfl (new_cell _ _ _) (by simp [Value.oneCell']) HOa.out (HB.out.alloc HB.out.size _) (by simp; omega) (by have := HL.out; have := HL2.out; simp; unfold padN at hm; omega) ?_
      intro v2 w2 ho2 hb2 hg2
      have hgg := (HOa.out.lt g rfl).1
      have hh2 := (hg2.block w.heap.size (blk_lt HHa.out) (by simp [Value.ownBlock]; omega)).trans HHa.out
      have hl2 : (x2 ++ List.replicate m (Value.int .u8 0) ++ [Value.int .u8 0]).length = L + 1 := by have := HL.out; have := HL2.out; simp; omega
      obtain ⟨g2, cap2, rfl⟩ := own_form ho2 _ hl2 (by omega)
      clear HO HB hg2 HHa HOa
      go_wp2
      refine ⟨⟨m + 1, L + 1, g2, cap2, by omega, by have := HL.out; omega, rfl, ?_, hb2, blk_lt hh2, hh2⟩, ?_⟩
      · rw [List.replicate_succ', ← List.append_assoc]
        exact ho2
      · have := HL.out; simp [lenOf]; omega
end Go.Proofs.YtjkanhjapddhnaaDoor.Sha
