/- The reference's drawn text (spec.MsgOf), walked. -/
import Derived.Test.YtmkaknegjahjaaaDoorSrc
namespace Go.Proofs.YtmkaknegjahjaaaDoor.Src
open Go.RowKit Go.Proofs.YtmkaknegjahjaaaDoorV.PrintWords Go.Proofs.YtmkaknegjahjaaaDoorV.PrintMore Go.Lib
set_option linter.unusedVariables false
set_option maxHeartbeats 4000000
set_option maxRecDepth 100000
theorem KK.grown {g : Nat} {w w1 w2 : World} {row : Option Nat} (h : KK g w w1) (hg : w1.grownBy w2 row) (hgw : g < w.heap.size) (hrow : ∀ k, row = some k → w.heap.size ≤ k) : KK g w w2 :=
  ⟨fun base hb => (h.1 base hb).grown hg (by have := h.2.1; omega) (fun k e => by have := hrow k e; omega),
   ⟨Nat.le_trans h.2.1 hg.size, fun k hk hne => (hg.block k (Nat.lt_of_lt_of_le hk h.2.1) (fun e => by have := hrow k e.symm; omega)).trans (h.2.2 k hk hne)⟩⟩
theorem byteF_at (l : List Int) (a s : Int) : (byteF l a s).2.1 = a + 1 := by
  unfold byteF
  split
  · rfl
  split <;> rfl
theorem byteF_seed (l : List Int) (a s : Int) (h : 0 ≤ s ∧ s < 2147483648) : 0 ≤ (byteF l a s).2.2 ∧ (byteF l a s).2.2 < 2147483648 := by
  unfold byteF
  split
  · dsimp only; omega
  split
  · exact h
  · dsimp only; omega
/-- The bytes that are drawn one by one. -/
def drawsF (l : List Int) : Nat → Int → Int → List Int × Int × Int
  | 0, a, s => ([], a, s)
  | m + 1, a, s => ((byteF l a s).1 :: (drawsF l m (byteF l a s).2.1 (byteF l a s).2.2).1, (drawsF l m (byteF l a s).2.1 (byteF l a s).2.2).2)
def bytesF (l : List Int) (n a s : Int) : List Int × Int × Int := drawsF l ((byteF l a s).1 % (n + 1)).toNat (byteF l a s).2.1 (byteF l a s).2.2
theorem drawsF_length (l : List Int) (m : Nat) : ∀ a s, (drawsF l m a s).1.length = m := by
  induction m with
  | zero => intro a s; rfl
  | succ m ih => intro a s; rw [drawsF, List.length_cons, ih]
theorem drawsF_at (l : List Int) (m : Nat) : ∀ a s, (drawsF l m a s).2.1 = a + m := by
  induction m with
  | zero => intro a s; simp [drawsF]
  | succ m ih => intro a s; rw [drawsF]; dsimp only; rw [ih, byteF_at]; omega
theorem drawsF_seed (l : List Int) (m : Nat) : ∀ a s, (0 ≤ s ∧ s < 2147483648) → 0 ≤ (drawsF l m a s).2.2 ∧ (drawsF l m a s).2.2 < 2147483648 := by
  induction m with
  | zero => intro a s h; exact h
  | succ m ih => intro a s h; rw [drawsF]; exact ih _ _ (byteF_seed l a s h)
theorem bytes_calls (g : Nat) (w0 w : World) (A0 : Option Addr) (c0 T : Nat) (l : List Int) (at_ seed n : Int) (hn : 1 ≤ n) (hn2 : n ≤ 200)
    (hB : w.heap[g]? = some (.cells #[.slice A0 l.length c0, .int .i64 at_, .int .i64 seed] T (0, 0)))
    (hr : Kd.C (Kd.int .u8) w0 A0 l.length l) (hw : Below w0.heap.size w0 w) (hg : w0.heap.size ≤ g) (hu : ∀ i : Int, 0 ≤ rd l i ∧ rd l i ≤ 255) (h0 : 0 ≤ at_) (h1 : at_ ≤ 1000) (s0 : 0 ≤ seed) (s1 : seed < 2147483648) (hl : l.length ≤ 4611686018427387904) :
    Calls Tryd.prog 111 #[.pointer (some ⟨g, 0, none⟩), .int .i64 n] w fun e w' => ∃ v, e = .returned v ∧ Kd.R (Kd.int .u8) 5 w' w.heap.size (fun k => w.heap.size ≤ k) v (bytesF l n at_ seed).1 ∧ w'.heap[g]? = some (.cells #[.slice A0 l.length c0, .int .i64 (bytesF l n at_ seed).2.1, .int .i64 (bytesF l n at_ seed).2.2] T (0, 0)) ∧ KK g w w' := by
  have hgw : g < w.heap.size := blk_lt hB
  have NC := fun (w' : World) (a s m : Int) (hm : 1 < m) (hm2 : m ≤ 256) (hB' : w'.heap[g]? = some (.cells #[.slice A0 l.length c0, .int .i64 a, .int .i64 s] T (0, 0))) (hK : KK g w w') (ha : 0 ≤ a) (ha2 : a ≤ 1000000) (hs : 0 ≤ s) (hs2 : s < 2147483648) =>
    next_calls g w0 w' A0 c0 T l a s m hm hm2 hB' hr (hw.trans (hK.1 _ hg)) hg hu ha ha2 hs hs2 hl
  have HNC := Aside0.mk NC
  clear NC
  have HB := Aside0.mk hB
  have hbr := byteF_range l at_ seed hu
  have hba := byteF_at l at_ seed
  have hbs := byteF_seed l at_ seed ⟨s0, s1⟩
  obtain ⟨X, hX⟩ : ∃ X, bytesF l n at_ seed = X := ⟨_, rfl⟩
  have HX := Aside0.mk (show drawsF l ((byteF l at_ seed).1 % (n + 1)).toNat (byteF l at_ seed).2.1 (byteF l at_ seed).2.2 = X from hX)
  rw [hX]
  clear hB hr hw hX
  have hw1 : IntKind.i64.wrap (n + 1) = n + 1 := wr64 _ (by omega) (by omega)
  go_enter Tryd.func111, Tryd.ntmps111
  go_wp2_with (first
    | ((with_reducible refine gate_dst (N := 7) rfl ?_); refine Kd.R_lit (Kd.int .u8) _ 5 ?hg (N := 7) ?hd (xs := ([] : List Int)) (inner := []) (ok := fun k => w.heap.size ≤ k) (okp := fun _ => False) ?hr ?hp (fun _ hk => hk.elim) (Nat.le_refl _) (Below.refl _ _) (Nat.le_refl _) (by simp) ?_; (case hd => rfl); (case hg => rfl); (case hr => first | (go_simp; done) | (go_simp; rfl)); (case hp => exact (Reps.none _ _)); intro v105 w3 ho4 hb hg_ hnew_; have HO := Aside0.mk ho4; have HK := Aside0.mk ((KK.refl g w).grown hg_ hgw (fun k e => by cases e)); have HB1 := Aside0.mk ((hg_.block g hgw (by simp)).trans HB.out); clear hg_ hnew_ ho4 hb HB)
    | (go_at_call 58; refine halt_ ?_))
  refine ⟨?_⟩
  refine (HNC.out _ _ _ _ (by omega) (by omega) HB1.out HK.out (by omega) (by omega) (by omega) (by omega)).mono ?_
  rintro e w4 ⟨rfl, hb4, hk4⟩
  have n0_ := Aside0.mk (Kd.R_kept HO.out hk4.2 (fun k hk => by omega))
  have n1_ := Aside0.mk (HK.out.trans hk4)
  have n2_ := Aside0.mk hb4
  clear HO HK HB1 hb4 hk4
  have HO := n0_
  have HK := n1_
  have HB := n2_
  clear n0_ n1_ n2_
  generalize byteF l at_ seed = R at hbr hba hbs HX HB ⊢
  have q1 := Int.emod_nonneg R.1 (show n + 1 ≠ 0 by omega)
  have q2 := Int.emod_lt_of_pos R.1 (show 0 < n + 1 by omega)
  obtain ⟨m0, hm0⟩ : ∃ m : Nat, R.1 % (n + 1) = (m : Int) := ⟨(R.1 % (n + 1)).toNat, by omega⟩
  rw [hm0] at HX ⊢
  rw [Int.toNat_natCast] at HX
  have hm1 : m0 ≤ 200 := by omega
  clear q1 q2 hm0
  go_wp2
  go_loopw [5, 6] (fun v5 v6 wr => ∃ (pre : List Int) (m : Nat) (a s : Int), v6 = .int .i64 m ∧ Aside0 (Kd.R (Kd.int .u8) 5 wr w.heap.size (fun k => w.heap.size ≤ k) v5 pre) ∧ Aside0 (wr.heap[g]? = some (.cells #[.slice A0 l.length c0, .int .i64 a, .int .i64 s] T (0, 0))) ∧ Aside0 (KK g w wr) ∧ Aside0 (m ≤ 255 ∧ 0 ≤ a ∧ a + m ≤ 2000 ∧ 0 ≤ s ∧ s < 2147483648 ∧ pre.length + m ≤ 255) ∧ Aside0 (pre ++ (drawsF l m a s).1 = X.1 ∧ (drawsF l m a s).2 = X.2)) (fun _ v6 _ => (intOf v6).toNat)
  case atStart => exact ⟨[], m0, R.2.1, R.2.2, rfl, HO, HB, HK, ⟨by omega, by omega, by omega, by omega, by omega, by simp; omega⟩, ⟨by rw [List.nil_append, HX.out], by rw [HX.out]⟩⟩
  case round =>
    clear HO HK HB HX hbr hba hbs
    obtain ⟨pre, m, a, s, rfl, HO, HB, HK, HN, HX⟩ := hrel
    cases m with
    | zero =>
      obtain ⟨x1, x2⟩ := HX.out
      have hd : drawsF l 0 a s = ([], a, s) := rfl
      rw [hd] at x1 x2
      rw [List.append_nil] at x1
      go_wp2
      go_ret
      exact ⟨_, rfl, by rw [← x1]; exact HO.out, by rw [← x2]; exact HB.out, HK.out⟩
    | succ m =>
      obtain ⟨b1, b2, b3, b4, b5, b6⟩ := HN.out
      have p1 : ((0 : Int) < ((m + 1 : Nat) : Int)) = True := eq_true (by omega)
      have p2 : decide ((0 : Int) < ((m + 1 : Nat) : Int)) = true := decide_eq_true (by omega)
      have p3 : wrap64 (((m + 1 : Nat) : Int) - 1) = (m : Int) := by unfold wrap64; omega
      have p4 : IntKind.i64.wrap (((m + 1 : Nat) : Int) - 1) = (m : Int) := by rw [wr64 _ (by omega) (by omega)]; omega
      go_wp2_with (first | (go_at_call 58; refine halt_ ?_))
      refine ⟨?_⟩
      refine (HNC.out _ _ _ _ (by decide) (by decide) HB.out HK.out b2 (by omega) b4 b5).mono ?_
      rintro e w5 ⟨rfl, hb5, hk5⟩
      have n0_ := Aside0.mk (Kd.R_kept HO.out hk5.2 (fun k hk => by omega))
      have n1_ := Aside0.mk (HK.out.trans hk5)
      have n2_ := Aside0.mk hb5
      clear HO HK HB hb5 hk5
      have HO := n0_
      have HK := n1_
      have HB := n2_
      clear n0_ n1_ n2_
      obtain ⟨x1, x2⟩ := HX.out
      rw [drawsF] at x1 x2
      have hbr := byteF_range l a s hu
      have hba := byteF_at l a s
      have hbs := byteF_seed l a s ⟨b4, b5⟩
      generalize byteF l a s = R2 at hbr hba hbs x1 x2 HB ⊢
      have z1 : R2.1 % 256 = R2.1 := by omega
      have z2 : IntKind.u8.wrap R2.1 = R2.1 := by simp [IntKind.wrap, IntKind.bits, IntKind.signed]; omega
      have HX2 := Aside0.mk (And.intro x1 x2)
      clear x1 x2 HX
      rw [z1]
      have hs5 : w.heap.size ≤ w5.heap.size := HK.out.2.1
      have info5 : (Tryd.prog.info? 5).map (fun i => (i.zero, i.size, i.bytes)) = some (some (.int .u8 0), 1, 1) := by kernel_rfl
      go_wp2_with (first | ((with_reducible refine gate_builtin (b := .append) (xs := #[.tmp 16, .tmp 20]) rfl ?_); at_builtin; refine halt_ ?_))
      refine ⟨?_⟩
      refine Kd.R_append (Kd.int .u8) (w0 := w5) w.heap.size rfl (.tmp 16) (.tmp 20) 22 5 (.int .u8 0) 1 rfl Tryd.underlying22 info5 rfl (by decide) (by omega) u5 pre R2.1 [.int .u8 R2.1] (fun k => w.heap.size ≤ k) (fun _ => False) rfl rfl ?aP (fun _ hk => hk.elim) ?aF ?aO ?aB ?aS ?aL ?_
      case aP => exact rfl
      case aB => exact Below.refl _ _
      case aF => exact (fun k hk => by omega)
      case aO => exact HO.out
      case aS => omega
      case aL => omega
      intro v6_ w6 ho hb hg6 hat
      have hrow6 := HO.out.1
      have n0_ := Aside0.mk (HK.out.grown hg6 hgw (fun k e => hrow6 k e))
      have n1_ := Aside0.mk ho
      have n2_ := Aside0.mk ((hg6.block g (by omega) (fun e => by have := hrow6 g e.symm; omega)).trans HB.out)
      clear HK HO HB ho hb hg6 hat hrow6
      have HK := n0_
      have HO := n1_
      have HB := n2_
      clear n0_ n1_ n2_
      go_wp2
      go_roundw
      case rel => exact ⟨pre ++ [R2.1], m, R2.2.1, R2.2.2, by simp, HO, HB, HK, ⟨by omega, by omega, by omega, by omega, by omega, by rw [List.length_append, List.length_singleton]; omega⟩, ⟨by rw [List.append_assoc]; exact HX2.out.1, HX2.out.2⟩⟩
      case measure => simp [intOf]
theorem pick_calls (g gb cap : Nat) (w0 w : World) (A0 : Option Addr) (c0 T : Nat) (l : List Int) (at_ seed : Int) (L : List ByteArray) (hL : L.length = 5) (hne : gb ≠ g)
    (hG : w.heap[gb]? = some (.cells (L.map Value.string).toArray 9 (0, 0)))
    (hB : w.heap[g]? = some (.cells #[.slice A0 l.length c0, .int .i64 at_, .int .i64 seed] T (0, 0)))
    (hr : Kd.C (Kd.int .u8) w0 A0 l.length l) (hw : Below w0.heap.size w0 w) (hg : w0.heap.size ≤ g) (hu : ∀ i : Int, 0 ≤ rd l i ∧ rd l i ≤ 255) (h0 : 0 ≤ at_) (h1 : at_ ≤ 10000) (s0 : 0 ≤ seed) (s1 : seed < 2147483648) (hl : l.length ≤ 4611686018427387904) :
    Calls Tryd.prog 110 #[.pointer (some ⟨g, 0, none⟩), .slice (some ⟨gb, 0, none⟩) 5 cap] w fun e w' => e = .returned (.string (L.getD ((byteF l at_ seed).1 % 5).toNat ByteArray.empty)) ∧ KK g w w' := by
  have HN := next_calls g w0 w A0 c0 T l at_ seed 5 (by decide) (by decide) hB hr hw hg hu h0 (by omega) s0 s1 hl
  have hgb : gb < w.heap.size := blk_lt hG
  generalize byteF l at_ seed = R at HN ⊢
  have q0 : 0 ≤ R.1 % 5 := by omega
  have q1 : R.1 % 5 < 5 := by omega
  generalize R.1 % 5 = q at q0 q1 HN ⊢
  have hX : (L.map Value.string).toArray[q.toNat]? = some (.string (L.getD q.toNat ByteArray.empty)) := by
    have hlt : q.toNat < L.length := by omega
    simp [List.getD_eq_getElem?_getD, hlt]
  generalize L.getD q.toNat ByteArray.empty = X at hX ⊢
  have HN' := Aside0.mk HN
  have HG := Aside0.mk hG
  have HX := Aside0.mk hX
  clear HN hG hB hr hw hX
  have p0 : (0 ≤ q) = True := eq_true q0
  have p1 : (q < 5) = True := eq_true q1
  have p2 : q.toNat < 5 := by omega
  go_enter Tryd.func110, Tryd.ntmps110
  go_wp2_with (first | (go_at_call 58; refine halt_ ?_))
  refine ⟨?_⟩
  refine HN'.out.mono ?_
  rintro e w2 ⟨rfl, hb2, hk2⟩
  have hcell : w2.cell? ⟨gb, q.toNat, none⟩ = some (.string X) := (blk_cell ((hk2.2.2 gb hgb hne).trans HG.out) _).trans HX.out
  have HK := Aside0.mk hk2
  clear hb2 hk2
  go_wp2
  go_ret
  exact ⟨rfl, HK.out⟩
/-- The text that is drawn of a code. -/
def msgF (l : List Int) : ByteArray :=
  ([⟨#[]⟩, ⟨#[109, 101, 115, 115, 97, 103, 101]⟩, ⟨#[97, 110, 111, 116, 104, 101, 114]⟩, ⟨#[103, 114, 97, 110, 116, 32, 97, 32, 49]⟩, strOfNums (bytesF l 20 0 ((l.length : Int) % 1000)).1] : List ByteArray).getD
    ((byteF l (bytesF l 20 0 ((l.length : Int) % 1000)).2.1 (bytesF l 20 0 ((l.length : Int) % 1000)).2.2).1 % 5).toNat ByteArray.empty
theorem msg_calls (g : Nat) (w0 w : World) (A0 : Option Addr) (c0 T : Nat) (l : List Int)
    (hB : w.heap[g]? = some (.cells #[.slice A0 l.length c0, .int .i64 0, .int .i64 ((l.length : Int) % 1000)] T (0, 0)))
    (hr : Kd.C (Kd.int .u8) w0 A0 l.length l) (hw : Below w0.heap.size w0 w) (hg : w0.heap.size ≤ g) (hu : ∀ i : Int, 0 ≤ rd l i ∧ rd l i ≤ 255) (hl : l.length ≤ 4611686018427387904) :
    Calls Tryd.prog 67 #[.pointer (some ⟨g, 0, none⟩)] w fun e w' => e = .returned (.string (msgF l)) ∧ KK g w w' := by
  have hgw : g < w.heap.size := blk_lt hB
  have HBY := bytes_calls g w0 w A0 c0 T l 0 ((l.length : Int) % 1000) 20 (by decide) (by decide) hB hr hw hg hu (by omega) (by omega) (by omega) (by omega) hl
  have hba := drawsF_at l ((byteF l 0 ((l.length : Int) % 1000)).1 % (20 + 1)).toNat (byteF l 0 ((l.length : Int) % 1000)).2.1 (byteF l 0 ((l.length : Int) % 1000)).2.2
  have hbs := drawsF_seed l ((byteF l 0 ((l.length : Int) % 1000)).1 % (20 + 1)).toNat (byteF l 0 ((l.length : Int) % 1000)).2.1 (byteF l 0 ((l.length : Int) % 1000)).2.2 (byteF_seed _ _ _ (by omega))
  have hbs' : 0 ≤ (bytesF l 20 0 ((l.length : Int) % 1000)).2.2 ∧ (bytesF l 20 0 ((l.length : Int) % 1000)).2.2 < 2147483648 := hbs
  have hba' : 0 ≤ (bytesF l 20 0 ((l.length : Int) % 1000)).2.1 ∧ (bytesF l 20 0 ((l.length : Int) % 1000)).2.1 ≤ 1000 := by
    have e : (bytesF l 20 0 ((l.length : Int) % 1000)).2.1 = _ := hba
    rw [e, byteF_at]
    omega
  clear hba hbs
  unfold msgF
  generalize bytesF l 20 0 ((l.length : Int) % 1000) = X at HBY hbs' hba' ⊢
  have PK := fun (w' : World) (gb cap : Nat) (L : List ByteArray) (hL : L.length = 5) (hne : gb ≠ g) (hG : w'.heap[gb]? = some (.cells (L.map Value.string).toArray 9 (0, 0))) (hB' : w'.heap[g]? = some (.cells #[.slice A0 l.length c0, .int .i64 X.2.1, .int .i64 X.2.2] T (0, 0))) (hK : KK g w w') =>
    pick_calls g gb cap w0 w' A0 c0 T l X.2.1 X.2.2 L hL hne hG hB' hr (hw.trans (hK.1 _ hg)) hg hu (by omega) (by omega) (by omega) (by omega) hl
  have HPK := Aside0.mk PK
  have HBY' := Aside0.mk HBY
  clear PK HBY hB hr hw
  go_enter Tryd.func67, Tryd.ntmps67
  go_wp2_with (first | (go_at_call 111; refine halt_ ?_))
  refine ⟨?_⟩
  refine HBY'.out.mono ?_
  rintro e w2 ⟨v, rfl, hR, hb, hk⟩
  obtain ⟨A1, c1, rfl⟩ := Kd.R_slice hR
  have hcv := own_string (P := Tryd.prog) Tryd.underlying22 Tryd.underlying5 Tryd.underlying9 (Kd.own_of_R hR)
  have HK := Aside0.mk hk
  have HB := Aside0.mk hb
  clear hR hb hk
  go_wp2_with (first | (go_at_call 110; refine halt_ ?_))
  refine ⟨?_⟩
  have hs2 : w.heap.size ≤ w2.heap.size := HK.out.2.1
  refine (HPK.out _ _ _ [⟨#[]⟩, ⟨#[109, 101, 115, 115, 97, 103, 101]⟩, ⟨#[97, 110, 111, 116, 104, 101, 114]⟩, ⟨#[103, 114, 97, 110, 116, 32, 97, 32, 49]⟩, strOfNums X.1] rfl (by omega) (heap_alloc_new w2 _) ((Below.heap_alloc _ _ g (by omega)).trans HB.out) (HK.out.grown (World.grownBy_alloc w2 _ none) hgw (fun k e => by cases e))).mono ?_
  rintro e w3 ⟨rfl, hk3⟩
  have HK3 := Aside0.mk ((HK.out.grown (World.grownBy_alloc w2 _ none) hgw (fun k e => by cases e)).trans hk3)
  clear hk3
  go_wp2
  go_ret
  exact ⟨rfl, HK3.out⟩
theorem msgOf_calls (w : World) (A0 : Option Addr) (c0 : Nat) (l : List Int) (hr : Kd.C (Kd.int .u8) w A0 l.length l) (hu : ∀ i : Int, 0 ≤ rd l i ∧ rd l i ≤ 255) (hl : l.length ≤ 4611686018427387904) :
    Calls Tryd.prog 25 #[.slice A0 l.length c0] w fun e w' => e = .returned (.string (msgF l)) ∧ Below w.heap.size w w' := by
  have hB0 : (w.alloc (.cells #[.slice A0 l.length c0, .int .i64 0, .int .i64 ((l.length : Int) % 1000)] 119 (0, 0))).heap[w.heap.size]? = some (.cells #[.slice A0 l.length c0, .int .i64 0, .int .i64 ((l.length : Int) % 1000)] 119 (0, 0)) := heap_alloc_new w _
  have hm := msg_calls w.heap.size w _ A0 c0 _ l hB0 hr ((Below.refl _ w).alloc (Nat.le_refl _) _) (Nat.le_refl _) hu hl
  have HM := Aside0.mk hm
  clear hm hB0 hr
  generalize msgF l = M at HM ⊢
  go_enter Tryd.func25, Tryd.ntmps25
  go_wp2_with (first
    | (go_at_call 57; refine (source_calls w A0 c0 l hl).mono ?_; rintro e w1 ⟨rfl, rfl⟩)
    | (go_at_call 67; refine HM.out.mono ?_; rintro e w2 ⟨rfl, hq2⟩; have HB := Aside0.mk (((Below.refl _ w).alloc (Nat.le_refl _) _).trans (hq2.1 w.heap.size (Nat.le_refl _))); clear hq2))
  go_ret
  exact ⟨rfl, HB.out⟩
end Go.Proofs.YtmkaknegjahjaaaDoor.Src
