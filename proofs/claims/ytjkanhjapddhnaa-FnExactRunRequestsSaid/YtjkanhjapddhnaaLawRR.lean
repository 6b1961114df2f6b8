/- The law FnExactRunRequests, walked by hand (written by mklaw7.py): the way on which every comparison succeeds. -/
-- squeezed
import Derived.Test.YtjkanhjapddhnaaSRun
import Derived.Test.YtjkanhjapddhnaaHeld
import Derived.Test.YtjkanhjapddhnaaPFnExactRunRequestsx2
import Derived.Test.YtjkanhjapddhnaaPFnExactRunRequestsx7
namespace Go.Proofs.Ytjkanhjapddhnaa.LawRR
open Go.RowKit Go.Lib Go.Proofs.YtjkanhjapddhnaaV.PrintWords Go.Proofs.YtjkanhjapddhnaaV.PrintMore Go.Proofs.YtjkanhjapddhnaaV.PrintLast Go.Proofs.Ytjkanhjapddhnaa.Own Go.Proofs.Ytjkanhjapddhnaa.MarkT Go.Proofs.Ytjkanhjapddhnaa.Tb Go.Proofs.Ytjkanhjapddhnaa.Pu Go.Proofs.Ytjkanhjapddhnaa.Ctx Go.Proofs.Ytjkanhjapddhnaa.InsR Go.Proofs.Ytjkanhjapddhnaa.Inv Go.Proofs.Ytjkanhjapddhnaa.Cod Go.Proofs.Ytjkanhjapddhnaa.Run Go.Proofs.Ytjkanhjapddhnaa.SOwn Go.Proofs.Ytjkanhjapddhnaa.SRun Go.Proofs.Ytjkanhjapddhnaa.Held Go.Proofs.Ytjkanhjapddhnaa.PFnExactRunRequests
set_option linter.unusedVariables false
set_option linter.unusedSimpArgs false
set_option maxHeartbeats 20000000
set_option maxRecDepth 100000
structure Hv (W : World) (T : Tv) (av : Value) (an_ : List AN) (oa : Option Nat) (lo hi : Nat) : Prop where
 tv : TV W T
 row : Row W 75 4 av an_.length (an_.flatMap ac) oa
 ge : ∀ b,(some b ∈ T.blocks ∨ oa = some b) → lo ≤ b ∧ b < hi
 ap : ∀ x ∈ T.blocks,apart x oa
theorem Hv.kept {W W' : World} {T : Tv} {av : Value} {an_ : List AN} {oa : Option Nat} {lo hi : Nat} (h : Hv W T av an_ oa lo hi) (hk : ∀ b,lo ≤ b → b < hi → b < W.heap.size → W'.heap[b]? = W.heap[b]?) : Hv W' T av an_ oa lo hi :=
 ⟨h.tv.kept (fun b hb => hk b (h.ge b (.inl hb)).1 (h.ge b (.inl hb)).2 (h.tv.lt b hb)),h.row.kept (fun b hb => hk b (h.ge b (.inr hb)).1 (h.ge b (.inr hb)).2 (h.row.lt b hb)),h.ge,h.ap⟩
theorem Hv.below {W W' : World} {T : Tv} {av : Value} {an_ : List AN} {oa : Option Nat} {lo hi : Nat} (h : Hv W T av an_ oa lo hi) (hb : Below W.heap.size W W') : Hv W' T av an_ oa lo hi:=h.kept (fun b _ _ hlt => hb.block b hlt)
theorem Hv.fr {S : Nat → Prop} {W W' : World} {T : Tv} {av : Value} {an_ : List AN} {oa : Option Nat} {lo hi : Nat} (h : Hv W T av an_ oa lo hi) (hf : Fr S W W') (hS : ∀ x,S x → x < lo ∨ hi ≤ x) : Hv W' T av an_ oa lo hi:=h.kept (fun b h1 h2 hlt => hf.block b hlt (fun hh => by have:=hS b hh;omega))
theorem Res.hv {w w' : World} {tv av : Value} {T : Tp} {an_ : List AN} (h : Res w w' tv av T an_) : ∃ (T_ : Tv) (oa : Option Nat),tv = tbV T_.tm T_.nx T_.vl T_.vs ∧ Tv.pu T_ = T ∧ Hv w' T_ av an_ oa w.heap.size w'.heap.size:=by
 obtain ⟨T_,oa,h1,h2,h3,h4,h5,h6⟩:=h.ex
 exact ⟨T_,oa,h1,h2,h3,h4,fun b hb => ⟨h5 b hb,hb.elim (fun h => h3.lt b h) (fun h => h4.lt b h)⟩,h6⟩
structure Cx (w W : World) (Ts Ti : Tv) (avs : Value) (an_ : List AN) (oas : Option Nat) (n6 n11 : Nat) : Prop where
 b : Below w.heap.size w W
 hs : Hv W Ts avs an_ oas w.heap.size n6
 g6 : W.heap[n6]? = some Ts.box
 g11 : W.heap[n11]? = some Ti.box
 l1 : w.heap.size ≤ n6
 l2 : n6 < n11
theorem Cx.below {w W W' : World} {Ts Ti : Tv} {avs : Value} {an_ : List AN} {oas : Option Nat} {n6 n11 : Nat} (h : Cx w W Ts Ti avs an_ oas n6 n11) (hb : Below W.heap.size W W') : Cx w W' Ts Ti avs an_ oas n6 n11 :=
 ⟨below_then h.b h.b.size hb,h.hs.below hb,(hb.block _ (blk_lt h.g6)).trans h.g6,(hb.block _ (blk_lt h.g11)).trans h.g11,h.l1,h.l2⟩
theorem Cx.fr {S : Nat → Prop} {w W W' : World} {Ts Ti : Tv} {avs : Value} {an_ : List AN} {oas : Option Nat} {n6 n11 : Nat} (h : Cx w W Ts Ti avs an_ oas n6 n11) (hf : Fr S W W') (hS : ∀ x,S x → n6 < x ∧ x < n11) : Cx w W' Ts Ti avs an_ oas n6 n11 :=
 ⟨⟨hf.os.trans h.b.os,hf.tape.trans h.b.tape,hf.output.trans h.b.output,Nat.le_trans h.b.size hf.size,fun k hk => (hf.block k (Nat.lt_of_lt_of_le hk h.b.size) (fun hh => by have:=hS k hh;have:=h.l1;omega)).trans (h.b.block k hk)⟩,
  h.hs.fr hf (fun x hx => .inr (Nat.le_of_lt (hS x hx).1)),hf.blk h.g6 (fun hh => by have:=hS _ hh;omega),hf.blk h.g11 (fun hh => by have:=hS _ hh;omega),h.l1,h.l2⟩
theorem TV.lrows {W : World} {T : Tv} (h : TV W T) : LRows W T.vl (T.ls.map EL.el) T.ol:=by
 have hf : (T.ls.map EL.el).flatMap El.cs = T.ls.flatMap EL.cs:=by rw [List.flatMap_map];rfl
 refine ⟨by rw [List.length_map,hf];exact h.rl,fun e he => ?_,fun e he => ?_,?_⟩
 ·
  obtain ⟨x,-,rfl⟩:=List.mem_map.1 he
  rfl
 ·
  obtain ⟨x,hx,rfl⟩:=List.mem_map.1 he
  exact h.rw x hx
 ·
  have hap:=h.ap
  unfold Tv.blocks at hap
  rw [List.pairwise_cons] at hap
  rw [List.map_map]
  exact hap.2
theorem eqTab_calls (W : World) (T1 T2 : Tv) (h1 : TV W T1) (h2 : TV W T2) (he : Tv.pu T1 = Tv.pu T2) : Calls Try.prog 12 #[tvV T1,tvV T2] W fun e w' => e = .returned (.bool true) ∧ Below W.heap.size W w':=by
 obtain ⟨A,c,hv,hlc,hk⟩:=h1.locks
 obtain ⟨A',c',hv',hlc',hk'⟩:=h1.seens
 obtain ⟨D,d,hw,hld,hj⟩:=h2.locks
 obtain ⟨D',d',hw',hld',hj'⟩:=h2.seens
 unfold Tv.pu at he
 injection he with e1 e2 e3 e4
 have hl1 : (T1.ls.map EL.x).length = T1.ls.length:=List.length_map _
 have hl2 : (T2.ls.map EL.x).length = T2.ls.length:=List.length_map _
 unfold tvV
 rw [hv,hv',hw,hw',← hl1,← hl2]
 rw [← hl1] at hlc hk
 rw [← hl2] at hld hj
 have hf : laws_eqTable.f T1.tm T1.nx (T1.ls.map EL.x) T1.ss T2.tm T2.nx (T2.ls.map EL.x) T2.ss = some true:=by rw [e1,e2,e3,e4];exact laws_eqTable.same _ _ _ _
 exact laws_eqTable.calls T1.tm T1.nx A c (T1.ls.map EL.x) A' c' T1.ss T2.tm T2.nx D d (T2.ls.map EL.x) D' d' T2.ss true W hk hlc hk' hlc' hj hld hj' hld' hf
theorem eqAns_calls (k : Nat) (W : World) (v1 v2 : Value) (an_ : List AN) (o1 o2 : Option Nat) (h1 : Row W 75 4 v1 an_.length (an_.flatMap ac) o1) (h2 : Row W 75 4 v2 an_.length (an_.flatMap ac) o2) (h : laws_eqAnswerS.f k an_ an_ = some true) :
  Calls Try.prog 35 #[v1,v2] W fun e w' => e = .returned (.bool true) ∧ Below W.heap.size W w':=by
 obtain ⟨A,c,rfl⟩:=h1.slice
 obtain ⟨D,d,rfl⟩:=h2.slice
 obtain ⟨p1,p2⟩:=row_reads (d:=k75) (g:=id) h1 rfl (fun x => rfl) (fun x _ => k75_mk W x)
 obtain ⟨p3,p4⟩:=row_reads (d:=k75) (g:=id) h2 rfl (fun x => rfl) (fun x _ => k75_mk W x)
 rw [List.map_id] at p2 p4
 exact laws_eqAnswerS.calls k A c an_ D d an_ true W p2 p1 p4 p3 h
theorem row_ofR {α : Type} {d : Kd α} {e : Nat} {w : World} {base : Nat} {ok : Nat → Prop} {v : Value} {l : List α} (h : d.R e w base ok v l) : ∃ xs ob,Row w e d.sz v l.length xs ob ∧ Of w e base ob:=by
 obtain ⟨h0,inner,ho,hr⟩:=h
 obtain ⟨ob,hrow,hob,hof⟩:=row_of ho
 exact ⟨inner,ob,hrow,hof⟩
theorem runS_len (l : List (RQ × Int)) (s : Tp × List AN) : (runS s l).2.length = s.2.length + l.length:=by
 induction l generalizing s with
 | nil => rfl
 | cons p l ih =>
  show (runS (stepS s p) l).2.length = _
  rw [ih]
  show (s.2 ++ [_]).length + _ = _
  rw [List.length_append]
  simp only [List.length_cons,List.length_nil]
  omega
theorem runAll_len (l : List RQ) (ts : List Int) : (runAll l ts).2.1.length ≤ 200:=by
 unfold runAll
 split
 ·
  rename_i h
  have:=code_zero h
  show (runS _ _).2.length ≤ 200
  rw [runS_len,List.length_zip]
  simp only [List.length_nil]
  omega
 ·
  simp
theorem runAll_good (l : List RQ) (ts : List Int) : (runAll l ts).1.ls.length ≤ 4 ∧ (runAll l ts).1.ss.length ≤ 6 ∧ ∀ x ∈ (runAll l ts).1.ls,x.f4.length ≤ 4:=by
 unfold runAll
 split
 ·
  rename_i h
  obtain ⟨h1,h2,h3,h4⟩:=code_zero h
  have hg : ∀ (l : List (RQ × Int)) (s : Tp × List AN) (N : Int),(∀ p ∈ l,okR p.1 = true ∧ okT p.2 = true) → TGood N s.1 → ∃ N',TGood N' (runS s l).1:=by
   intro l
   induction l with
   | nil => exact fun s N _ h => ⟨N,h⟩
   | cons p l ih =>
    intro s N hp h
    obtain ⟨q1,q2⟩:=hp p List.mem_cons_self
    exact ih (stepS s p) (N + 5) (fun x hx => hp x (List.mem_cons_of_mem _ hx)) (good_req h (okT_good q2) (okR_good q1))
  obtain ⟨N',hG⟩:=hg (l.zip ts) (newT,[]) 1 (fun p hp => by
   obtain ⟨a,b⟩:=p
   obtain ⟨m1,m2⟩:=List.of_mem_zip hp
   exact ⟨List.all_eq_true.1 h3 a m1,List.all_eq_true.1 h4 b m2⟩) new_good
  exact ⟨hG.l4,hG.s6,fun x hx => (hG.gl x hx).1⟩
 ·
  exact ⟨by simp,by simp,fun x hx => by simp at hx⟩
theorem lc_le (els : List El) (m : Nat) (h : ∀ e ∈ els,e.n ≤ m) : lc els ≤ els.length * (4 + 2 * m):=by
 induction els with
 | nil => simp [lc]
 | cons e l ih =>
  have h1:=ih (fun x hx => h x (List.mem_cons_of_mem _ hx))
  have h2:=h e List.mem_cons_self
  simp only [lc,List.map_cons,List.sum_cons,List.length_cons,Nat.succ_mul] at h1 ⊢
  omega
theorem law_neg (k : Nat) (A : Option Addr) (c0 : Nat) (l : List S90) (B : Option Addr) (c1 : Nat) (ts : List Int) (w : World) (hr : Kd.C k90 w A l.length l) (hc : l.length ≤ c0) (h : 1048576 < ts.length ∨ (ts.length ≤ 1048576 ∧ ∃ r,laws_szRequestS.f k l 1048576 = some r ∧ r < 0)) :
  Calls Try.prog 7 #[.slice A l.length c0,.slice B ts.length c1] w fun e w' => e = .returned (.bool true) ∧ Below w.heap.size w w':=by
 rcases h with h|⟨h,r,h1,hneg⟩
 ·
  have p0 : decide (1048576 < (ts.length : Int)) = true:=decide_eq_true (by omega)
  go_enter Try.func7,Try.ntmps7
  go_wp2_with fail
  go_ret
  exact ⟨rfl,Below.refl _ _⟩
 ·
  have p0 : decide (1048576 < (ts.length : Int)) = false:=decide_eq_false (by omega)
  have HR:=Aside0.mk hr
  have H1:=Aside0.mk h1
  clear hr h1
  go_enter Try.func7,Try.ntmps7
  go_wp2_with fail
  refine (laws_szRequestS.calls k A c0 l _ _ w HR.out hc H1.out).mono ?_
  rintro _ W1 ⟨rfl,hb⟩
  have HB:=Aside0.mk hb
  have p1 : decide (r < 0) = true:=decide_eq_true hneg
  clear hb
  go_wp2_with fail
  go_ret
  exact ⟨rfl,HB.out⟩
theorem law_pos (k : Nat) (A : Option Addr) (c0 : Nat) (l : List S90) (B : Option Addr) (c1 : Nat) (ts : List Int) (r : Int) (m : List RQ) (mt : Int → ByteArray) (w : World) (hr : Kd.C k90 w A l.length l) (hc : l.length ≤ c0) (hr' : Kd.C (Kd.int .i64) w B ts.length ts) (hc' : ts.length ≤ c1)
  (h1 : laws_szRequestS.f k l 1048576 = some r) (hpos : 0 ≤ r) (hts : ts.length ≤ 1048576) (h2 : laws_toRequestS.f k l = some m) (h3 : laws_toIntS.f k ts = some ts) (h4 : laws_eqRequestS.f k m m = some true) (h5 : laws_eqIntS.f k ts ts = some true) (h6 : ∀ an_ : List AN,an_.length ≤ 1000 → laws_eqAnswerS.f k an_ an_ = some true)
  (h8 : ∀ j : Int,0 ≤ j → j ≤ 4611686018427387904 → laws_markText.f k j = some (mt j)) (hm : m.length ≤ 1048576) (hs : ∀ r ∈ m,r.f4.size ≤ 140737488351232) :
  Calls Try.prog 7 #[.slice A l.length c0,.slice B ts.length c1] w fun e w' => e = .returned (.bool true) ∧ Below w.heap.size w w':=by
 have HR:=Aside0.mk hr
 have HR':=Aside0.mk hr'
 have HC:=Aside0.mk hc
 have HC':=Aside0.mk hc'
 have H1:=Aside0.mk h1
 have H2:=Aside0.mk h2
 have H3:=Aside0.mk h3
 have H4:=Aside0.mk h4
 have H5:=Aside0.mk h5
 have H6:=Aside0.mk h6
 have HMT:=Aside0.mk (fun (j : Int) (W : World) (h : 0 ≤ j) (h' : j ≤ 4611686018427387904) => laws_markText.calls k j _ W (h8 j h h'))
 have HS:=Aside0.mk hs
 have p0 : decide (1048576 < (ts.length : Int)) = false:=decide_eq_false (by omega)
 clear hr hr' hc hc' h1 h2 h3 h4 h5 h6 h8 hs
 obtain ⟨RA,hRA⟩ : ∃ RA,RA = runAll m ts:=⟨_,rfl⟩
 have HRA:=Aside0.mk hRA
 have HRL:=Aside0.mk (show RA.2.1.length ≤ 200 by rw [hRA];exact runAll_len m ts)
 have HRG:=Aside0.mk (show RA.1.ls.length ≤ 4 ∧ RA.1.ss.length ≤ 6 ∧ ∀ x ∈ RA.1.ls,x.f4.length ≤ 4 by rw [hRA];exact runAll_good m ts)
 clear hRA
 go_enter Try.func7,Try.ntmps7
 go_wp2_with fail
 refine (laws_szRequestS.calls k A c0 l _ _ w HR.out HC.out H1.out).mono ?_
 rintro _ W1 ⟨rfl,hb⟩
 have I1:=Aside0.mk hb
 have p1 : decide (r < 0) = false:=decide_eq_false (by omega)
 clear hb
 go_wp2_with fail
 refine (laws_toRequestS.calls k A c0 l m _ (Kd.C_below HR.out I1.out) HC.out H2.out).mono ?_
 rintro _ W2 ⟨v_,rfl,hrow,hb⟩
 obtain ⟨a1,d1,rfl,hl,hcc⟩:=Kd.R_reads hrow
 have HL1:=Aside0.mk hl
 have HCC1:=Aside0.mk hcc
 have I2:=Aside0.mk (below_then I1.out I1.out.size hb)
 clear hrow hb hl hcc
 go_wp2_with fail
 refine (laws_toIntS.calls k B c1 ts ts _ (Kd.C_below HR'.out I2.out) HC'.out H3.out).mono ?_
 rintro _ W3 ⟨v_,rfl,hrow,hb⟩
 obtain ⟨b1,e1,rfl,hl,hcc⟩:=Kd.R_reads hrow
 have HM1:=Aside0.mk hl
 have HDD1:=Aside0.mk hcc
 have I3:=Aside0.mk (below_then I2.out I2.out.size hb)
 have HCC2:=Aside0.mk (Kd.C_below HCC1.out hb)
 clear hrow hb hl hcc
 go_wp2_with fail
 have hq:=runSS_calls a1 d1 m b1 e1 ts W3 HCC2.out HS.out HDD1.out HL1.out HM1.out
 rw [← HRA.out] at hq
 with_reducible refine hq.mono ?_
 clear hq
 rintro _ W4 ⟨tv,avs,rfl,hres,hb⟩
 obtain ⟨Ts,oas,rfl,hp,hv⟩:=Res.hv hres
 have HPs:=Aside0.mk hp
 obtain ⟨las,lcs,hlv⟩:=hv.tv.rl.slice
 obtain ⟨sas,scs,hsv⟩:=hv.tv.rs.slice
 have HLVs:=Aside0.mk hlv
 have HSVs:=Aside0.mk hsv
 have hb5:=below_alloc (Below.refl W4.heap.size W4) (.cells #[.int .i64 Ts.tm,.int .i64 Ts.nx,.slice las Ts.ls.length lcs,.slice sas Ts.ss.length scs] 31 (0,0))
 have I4:=Aside0.mk (below_then I3.out I3.out.size hb)
 have I5:=Aside0.mk (below_then I4.out I4.out.size hb5)
 have HV5:=Aside0.mk (show Hv _ Ts avs RA.2.1 oas w.heap.size W4.heap.size from ⟨hv.tv.below hb5,hv.row.kept (fun b hb => hb5.block b (hv.row.lt b hb)),fun b hb => ⟨Nat.le_trans I3.out.size (hv.ge b hb).1,(hv.ge b hb).2⟩,hv.ap⟩)
 have HG5:=Aside0.mk (show (W4.alloc (.cells #[.int .i64 Ts.tm,.int .i64 Ts.nx,.slice las Ts.ls.length lcs,.slice sas Ts.ss.length scs] 31 (0,0))).heap[W4.heap.size]? = some Ts.box by unfold Tv.box;rw [hlv,hsv];exact heap_alloc_new W4 _)
 unfold tbV
 rw [hlv,hsv]
 clear hb hp hv hres hlv hsv hb5
 go_upto_region 8 with fail
 have HN6:=Aside0.mk (show w.heap.size ≤ W4.heap.size from I4.out.size)
 have HN65:=Aside0.mk (show W4.heap.size < (W4.alloc (.cells #[.int .i64 Ts.tm,.int .i64 Ts.nx,.slice las Ts.ls.length lcs,.slice sas Ts.ss.length scs] 31 (0,0))).heap.size from blk_lt HG5.out)
 change Code.wp _ _ _ _ (W4.alloc (.cells #[.int .i64 Ts.tm,.int .i64 Ts.nx,.slice las Ts.ls.length lcs,.slice sas Ts.ss.length scs] 31 (0,0)))
 generalize W4.alloc (.cells #[.int .i64 Ts.tm,.int .i64 Ts.nx,.slice las Ts.ls.length lcs,.slice sas Ts.ss.length scs] 31 (0,0)) = W5 at I5 HV5 HG5 HN65 ⊢
 generalize W4.heap.size = n6 at HV5 HG5 HN6 HN65 ⊢
 clear I1 I2 I3 I4 HCC1 HCC2 HL1 HM1 HDD1
 go_wp2_with fail
 refine (laws_toRequestS.calls k A c0 l m _ (Kd.C_below HR.out I5.out) HC.out H2.out).mono ?_
 rintro _ W6 ⟨v_,rfl,hrow,hb⟩
 obtain ⟨a2,d2,rfl,hl,hcc⟩:=Kd.R_reads hrow
 have HL2:=Aside0.mk hl
 have HCC2:=Aside0.mk hcc
 have I6:=Aside0.mk (below_then I5.out I5.out.size hb)
 have HV6:=Aside0.mk (HV5.out.below hb)
 have HG6:=Aside0.mk ((hb.block _ (blk_lt HG5.out)).trans HG5.out)
 obtain ⟨xs0,o0,hr0,hof0⟩:=row_ofR hrow
 have HR0:=Aside0.mk (show Row W6 94 5 (.slice a2 m.length d2) m.length xs0 o0 from hr0)
 have HO0:=Aside0.mk (show ∀ b,o0 = some b → n6 < b from fun b hb' => Nat.lt_of_lt_of_le HN65.out (hof0 b hb').1)
 clear hr0 hof0
 clear hrow hb hl hcc
 go_wp2_with fail
 refine (laws_toIntS.calls k B c1 ts ts _ (Kd.C_below HR'.out I6.out) HC'.out H3.out).mono ?_
 rintro _ W7 ⟨v_,rfl,hrow,hb⟩
 obtain ⟨b2,e2,rfl,hl,hcc⟩:=Kd.R_reads hrow
 have HM2:=Aside0.mk hl
 have HDD2:=Aside0.mk hcc
 have I7:=Aside0.mk (below_then I6.out I6.out.size hb)
 have HV7:=Aside0.mk (HV6.out.below hb)
 have HG7:=Aside0.mk ((hb.block _ (blk_lt HG6.out)).trans HG6.out)
 have HR7:=Aside0.mk (HR0.out.kept (fun b hb' => hb.block b (HR0.out.lt b hb')))
 have HX7:=Aside0.mk (Kd.C_below HCC2.out hb)
 obtain ⟨xs1,o1,hr0,hof0⟩:=row_ofR hrow
 have HQ7:=Aside0.mk (show Row W7 3 1 (.slice b2 ts.length e2) ts.length xs1 o1 from hr0)
 have HO1:=Aside0.mk (show ∀ b,o1 = some b → n6 < b from fun b hb' => Nat.lt_of_lt_of_le (blk_lt HG6.out) (hof0 b hb').1)
 have HAP:=Aside0.mk (show ∀ b,o0 = some b → o1 = some b → False from fun b h1 h2 => by have h3:=HR0.out.lt b h1;have h4:=(hof0 b h2).1;omega)
 clear hr0 hof0
 clear hrow hb hl hcc
 go_wp2_with fail
 have hq:=runI_calls a2 d2 m b2 e2 ts W7 HX7.out HS.out HDD2.out HL2.out HM2.out
 rw [← HRA.out] at hq
 with_reducible refine hq.mono ?_
 clear hq
 rintro _ W8 ⟨tv,avi,rfl,hres,hb⟩
 obtain ⟨Ti,oai,rfl,hp,hv⟩:=Res.hv hres
 have HPi:=Aside0.mk hp
 obtain ⟨lai,lci,hlv⟩:=hv.tv.rl.slice
 obtain ⟨sai,sci,hsv⟩:=hv.tv.rs.slice
 have HLVi:=Aside0.mk hlv
 have HSVi:=Aside0.mk hsv
 have hb9:=below_alloc (Below.refl W8.heap.size W8) (.cells #[.int .i64 Ti.tm,.int .i64 Ti.nx,.slice lai Ti.ls.length lci,.slice sai Ti.ss.length sci] 31 (0,0))
 have hbb:=hb.trans (Below.mono hb9 hb.size)
 have J9:=Aside0.mk (show Hv _ Ti avi RA.2.1 oai W7.heap.size W8.heap.size from ⟨hv.tv.below hb9,hv.row.kept (fun b hb => hb9.block b (hv.row.lt b hb)),hv.ge,hv.ap⟩)
 have hg11 : (W8.alloc (.cells #[.int .i64 Ti.tm,.int .i64 Ti.nx,.slice lai Ti.ls.length lci,.slice sai Ti.ss.length sci] 31 (0,0))).heap[W8.heap.size]? = some Ti.box:=by unfold Tv.box;rw [hlv,hsv];exact heap_alloc_new W8 _
 have HL78:=Aside0.mk (show W7.heap.size ≤ W8.heap.size from hb.size)
 have C9:=Aside0.mk (show Cx w _ Ts Ti avs RA.2.1 oas n6 W8.heap.size from ⟨below_then I7.out I7.out.size hbb,HV7.out.below hbb,(hbb.block _ (blk_lt HG7.out)).trans HG7.out,hg11,HN6.out,by have h1:=blk_lt HG7.out;have h2:=hb.size;omega⟩)
 have HR9:=Aside0.mk (HR7.out.kept (fun b hb' => hbb.block b (HR7.out.lt b hb')))
 have HX9:=Aside0.mk (Kd.C_below HX7.out hbb)
 have HQ9:=Aside0.mk (HQ7.out.kept (fun b hb' => hbb.block b (HQ7.out.lt b hb')))
 have HY9:=Aside0.mk (Kd.C_below HDD2.out hbb)
 have HO0u:=Aside0.mk (show ∀ b,o0 = some b → b < W7.heap.size from fun b hb' => HR7.out.lt b hb')
 have HO1u:=Aside0.mk (show ∀ b,o1 = some b → b < W7.heap.size from fun b hb' => HQ7.out.lt b hb')
 have HN67:=Aside0.mk (show n6 < W7.heap.size from blk_lt HG7.out)
 unfold tbV
 rw [hlv,hsv]
 clear hb hp hv hres hlv hsv hb9 hbb hg11
 go_upto_region 11 with fail
 change Code.wp _ _ _ _ (W8.alloc (.cells #[.int .i64 Ti.tm,.int .i64 Ti.nx,.slice lai Ti.ls.length lci,.slice sai Ti.ss.length sci] 31 (0,0)))
 generalize W8.alloc (.cells #[.int .i64 Ti.tm,.int .i64 Ti.nx,.slice lai Ti.ls.length lci,.slice sai Ti.ss.length sci] 31 (0,0)) = W9 at J9 C9 HR9 HX9 HQ9 HY9 ⊢
 generalize W8.heap.size = n11 at J9 C9 HL78 ⊢
 generalize W7.heap.size = lo at J9 HL78 HO0u HO1u HN67 ⊢
 clear I5 I6 I7 HV5 HV6 HV7 HG5 HG6 HG7 HR0 HR7 HX7 HQ7 HDD2 HCC2
 obtain ⟨y0,y1,y2,y3,-,-,-,-⟩:=box_facts (show _ = some Ti.box from C9.out.g11)
 rw [HLVi.out] at y2
 rw [HSVi.out] at y3
 obtain ⟨z0,z1,z2,z3,-,-,-,-⟩:=box_facts (show _ = some Ts.box from C9.out.g6)
 rw [HLVs.out] at z2
 rw [HSVs.out] at z3
 go_wp2_with fail
 clear y0 y1 y2 y3 z0 z1 z2 z3
 have hq:=eqTab_calls W9 Ti Ts J9.out.tv C9.out.hs.tv (by rw [HPi.out,HPs.out])
 unfold tvV at hq
 rw [HLVi.out,HSVi.out,HLVs.out,HSVs.out] at hq
 with_reducible refine hq.mono ?_
 clear hq
 rintro _ W10 ⟨rfl,hb⟩
 have C10:=Aside0.mk (C9.out.below hb)
 have J10:=Aside0.mk (J9.out.below hb)
 have HR10:=Aside0.mk (HR9.out.kept (fun b hb' => hb.block b (HR9.out.lt b hb')))
 have HX10:=Aside0.mk (Kd.C_below HX9.out hb)
 have HQ10:=Aside0.mk (HQ9.out.kept (fun b hb' => hb.block b (HQ9.out.lt b hb')))
 have HY10:=Aside0.mk (Kd.C_below HY9.out hb)
 clear hb
 go_wp2_with fail
 with_reducible refine (eqAns_calls k W10 avi avs RA.2.1 _ oas J10.out.row C10.out.hs.row (H6.out _ (by have:=HRL.out;omega))).mono ?_
 rintro _ W11 ⟨rfl,hb⟩
 have C11:=Aside0.mk (C10.out.below hb)
 have J11:=Aside0.mk (J10.out.below hb)
 have HR11:=Aside0.mk (HR10.out.kept (fun b hb' => hb.block b (HR10.out.lt b hb')))
 have HX11:=Aside0.mk (Kd.C_below HX10.out hb)
 have HQ11:=Aside0.mk (HQ10.out.kept (fun b hb' => hb.block b (HQ10.out.lt b hb')))
 have HY11:=Aside0.mk (Kd.C_below HY10.out hb)
 clear hb
 go_wp2_with fail
 refine (laws_toRequestS.calls k A c0 l m _ (Kd.C_below HR.out C11.out.b) HC.out H2.out).mono ?_
 rintro _ W12 ⟨v_,rfl,hrow,hb⟩
 obtain ⟨a3,d3,rfl,hl,hcc⟩:=Kd.R_reads hrow
 have HL3:=Aside0.mk hl
 have HCC3:=Aside0.mk hcc
 have C12:=Aside0.mk (C11.out.below hb)
 have J12:=Aside0.mk (J11.out.below hb)
 have HR12:=Aside0.mk (HR11.out.kept (fun b hb' => hb.block b (HR11.out.lt b hb')))
 have HX12:=Aside0.mk (Kd.C_below HX11.out hb)
 have HQ12:=Aside0.mk (HQ11.out.kept (fun b hb' => hb.block b (HQ11.out.lt b hb')))
 have HY12:=Aside0.mk (Kd.C_below HY11.out hb)
 clear hrow hb hl hcc
 go_wp2_with fail
 with_reducible refine (laws_eqRequestS.calls k a2 d2 m a3 d3 m true W12 HX12.out HL2.out HCC3.out HL3.out H4.out).mono ?_
 rintro _ W13 ⟨rfl,hb⟩
 have C13:=Aside0.mk (C12.out.below hb)
 have J13:=Aside0.mk (J12.out.below hb)
 have HR13:=Aside0.mk (HR12.out.kept (fun b hb' => hb.block b (HR12.out.lt b hb')))
 have HX13:=Aside0.mk (Kd.C_below HX12.out hb)
 have HQ13:=Aside0.mk (HQ12.out.kept (fun b hb' => hb.block b (HQ12.out.lt b hb')))
 have HY13:=Aside0.mk (Kd.C_below HY12.out hb)
 clear hb
 go_wp2_with fail
 refine (laws_toIntS.calls k B c1 ts ts _ (Kd.C_below HR'.out C13.out.b) HC'.out H3.out).mono ?_
 rintro _ W14 ⟨v_,rfl,hrow,hb⟩
 obtain ⟨b3,e3,rfl,hl,hcc⟩:=Kd.R_reads hrow
 have HM3:=Aside0.mk hl
 have HDD3:=Aside0.mk hcc
 have C14:=Aside0.mk (C13.out.below hb)
 have J14:=Aside0.mk (J13.out.below hb)
 have HR14:=Aside0.mk (HR13.out.kept (fun b hb' => hb.block b (HR13.out.lt b hb')))
 have HX14:=Aside0.mk (Kd.C_below HX13.out hb)
 have HQ14:=Aside0.mk (HQ13.out.kept (fun b hb' => hb.block b (HQ13.out.lt b hb')))
 have HY14:=Aside0.mk (Kd.C_below HY13.out hb)
 clear hrow hb hl hcc
 go_wp2_with fail
 with_reducible refine (laws_eqIntS.calls k b2 e2 ts b3 e3 ts true W14 HY14.out HM2.out HDD3.out HM3.out H5.out).mono ?_
 rintro _ W15 ⟨rfl,hd⟩
 have hb:=hd.below
 have C15:=Aside0.mk (C14.out.below hb)
 have J15:=Aside0.mk (J14.out.below hb)
 have HR15:=Aside0.mk (HR14.out.kept (fun b hb' => hb.block b (HR14.out.lt b hb')))
 have HX15:=Aside0.mk (Kd.C_below HX14.out hb)
 have HQ15:=Aside0.mk (HQ14.out.kept (fun b hb' => hb.block b (HQ14.out.lt b hb')))
 have HY15:=Aside0.mk (Kd.C_below HY14.out hb)
 clear hb hd HCC3 HL3 HDD3 HM3
 go_wp2_with fail
 with_reducible refine (markR_calls mt HMT.out _ m.length xs0 o0 1 W15 (fun b => o0 = some b) HR15.out (fun b hb => hb) (by omega) (by omega)).mono ?_
 rintro _ W16 ⟨rfl,-,hf⟩
 have C16:=Aside0.mk (C15.out.fr hf (fun x hx => ⟨HO0.out x hx,by have h1:=HO0u.out x hx;have h2:=HL78.out;omega⟩))
 have J16:=Aside0.mk (J15.out.fr hf (fun x hx => .inl (HO0u.out x hx)))
 have HQ16:=Aside0.mk (HQ15.out.kept (fun b hb => hf.block b (HQ15.out.lt b hb) (fun e => HAP.out b e hb)))
 obtain ⟨k1,hk1⟩ : ∃ k1 : Int,k1 = 1 + 5 * (m.length : Int):=⟨_,rfl⟩
 rw [← hk1]
 have hk1a : 0 ≤ k1:=by omega
 have hk1b : k1 ≤ 5242881:=by omega
 clear hf hk1
 go_wp2_with fail
 with_reducible refine (markI_calls _ ts.length xs1 o1 k1 W16 (fun b => o1 = some b) HQ16.out (fun b hb => hb) (by omega) (by omega)).mono ?_
 rintro _ W17 ⟨rfl,-,hf⟩
 have C17:=Aside0.mk (C16.out.fr hf (fun x hx => ⟨HO1.out x hx,by have h1:=HO1u.out x hx;have h2:=HL78.out;omega⟩))
 have J17:=Aside0.mk (J16.out.fr hf (fun x hx => .inl (HO1u.out x hx)))
 obtain ⟨k2,hk2⟩ : ∃ k2 : Int,k2 = k1 + 1 * (ts.length : Int):=⟨_,rfl⟩
 rw [← hk2]
 have p2 : decide (k2 < 0) = false:=decide_eq_false (by omega)
 clear hf hk2 HR9 HX9 HQ9 HY9 HR15 HX15 HQ15 HY15 HQ16
 obtain ⟨y0,y1,y2,y3,-,-,-,-⟩:=box_facts (show _ = some Ti.box from C17.out.g11)
 rw [HLVi.out] at y2
 rw [HSVi.out] at y3
 obtain ⟨z0,z1,z2,z3,-,-,-,-⟩:=box_facts (show _ = some Ts.box from C17.out.g6)
 rw [HLVs.out] at z2
 rw [HSVs.out] at z3
 go_wp2_with fail
 clear y0 y1 y2 y3 z0 z1 z2 z3
 have hq:=eqTab_calls W17 Ti Ts J17.out.tv C17.out.hs.tv (by rw [HPi.out,HPs.out])
 unfold tvV at hq
 rw [HLVi.out,HSVi.out,HLVs.out,HSVs.out] at hq
 with_reducible refine hq.mono ?_
 clear hq
 rintro _ W18 ⟨rfl,hb⟩
 have C18:=Aside0.mk (C17.out.below hb)
 have J18:=Aside0.mk (J17.out.below hb)
 clear hb
 go_wp2_with fail
 with_reducible refine (eqAns_calls k W18 avi avs RA.2.1 _ oas J18.out.row C18.out.hs.row (H6.out _ (by have:=HRL.out;omega))).mono ?_
 rintro _ W19 ⟨rfl,hb⟩
 have C19:=Aside0.mk (C18.out.below hb)
 have J19:=Aside0.mk (J18.out.below hb)
 clear hb
 have HLR:=Aside0.mk (TV.lrows J19.out.tv)
 have hlen : (Ti.ls.map EL.el).length = Ti.ls.length:=List.length_map _
 have hpi:=HPi.out
 have hl4 : Ti.ls.length ≤ 4:=by have h:=HRG.out.1;rw [← hpi] at h;rw [show (Tv.pu Ti).ls = Ti.ls.map EL.x from rfl,List.length_map] at h;exact h
 have hs6 : Ti.ss.length ≤ 6:=by have h:=HRG.out.2.1;rw [← hpi] at h;exact h
 have hw4 : ∀ e ∈ Ti.ls.map EL.el,e.n ≤ 4:=fun e he => by
  obtain ⟨x,hx,rfl⟩:=List.mem_map.1 he
  exact HRG.out.2.2 x.x (by rw [← hpi];exact List.mem_map_of_mem hx)
 have hlc : lc (Ti.ls.map EL.el) ≤ 48:=by
  have h:=lc_le _ 4 hw4
  rw [hlen] at h
  omega
 obtain ⟨els,hels⟩ : ∃ els,els = Ti.ls.map EL.el:=⟨_,rfl⟩
 rw [← hels] at HLR hlen hlc
 have HBO:=Aside0.mk (show ∀ b,Ti.ol = some b ∨ (∃ e ∈ els,e.ob = some b) → some b ∈ Ti.blocks ∧ Ti.os ≠ some b from by
  have hap:=J19.out.tv.ap
  unfold Tv.blocks at hap
  rw [List.pairwise_cons] at hap
  rintro b (h|⟨e,he,h⟩)
  ·
   exact ⟨by simp [Tv.blocks,h],fun h' => hap.1 Ti.ol (by simp) b h' h⟩
  ·
   rw [hels] at he
   obtain ⟨x,hx,rfl⟩:=List.mem_map.1 he
   have hm : x.ob ∈ Ti.ls.map EL.ob:=List.mem_map_of_mem hx
   exact ⟨h ▸ mem_blocks hx,fun h' => hap.1 x.ob (by simp only [List.mem_cons];exact .inr hm) b h' h⟩)
 have HBS:=Aside0.mk (show ∀ b,Ti.os = some b → some b ∈ Ti.blocks from fun b h => by simp [Tv.blocks,h])
 clear hpi hw4 hels
 obtain ⟨y0,y1,y2,y3,-,-,-,-⟩:=box_facts (show _ = some Ti.box from C19.out.g11)
 rw [HLVi.out] at y2
 rw [HSVi.out] at y3
 go_wp2_with fail
 clear y0 y1 y2 y3
 have hq:=markTab_calls mt HMT.out Ti.tm Ti.nx Ti.vl Ti.vs els Ti.ss.length (Ti.ss.flatMap sc) Ti.ol Ti.os 1 W19 (fun b => some b ∈ Ti.blocks) HLR.out J19.out.tv.rs HBO.out HBS.out (by omega) (by omega)
 rw [HLVi.out,HSVi.out] at hq
 with_reducible refine hq.mono ?_
 clear hq
 rintro _ W20 ⟨rfl,hlr,hsr,hf⟩
 have C20:=Aside0.mk (C19.out.fr hf (fun x hx => ⟨Nat.lt_of_lt_of_le HN67.out (J19.out.ge x (.inl hx)).1,(J19.out.ge x (.inl hx)).2⟩))
 have HLM:=Aside0.mk hlr
 have HSM:=Aside0.mk hsr
 have HAR:=Aside0.mk (J19.out.row.kept (fun b hb => hf.block b (J19.out.row.lt b hb) (fun hm => J19.out.ap _ hm b rfl hb)))
 have HAB:=Aside0.mk (show ∀ b,oai = some b → n6 < b ∧ b < n11 ∧ ¬ some b ∈ Ti.blocks from fun b hb => ⟨Nat.lt_of_lt_of_le HN67.out (J19.out.ge b (.inr hb)).1,(J19.out.ge b (.inr hb)).2,fun hm => J19.out.ap _ hm b rfl hb⟩)
 have hmem : ∀ e ∈ markEls mt 1 els,∃ e' ∈ els,e.ob = e'.ob:=fun e he => by
  have hm : e.ob ∈ (markEls mt 1 els).map El.ob:=List.mem_map_of_mem he
  rw [markEls_ob] at hm
  obtain ⟨e',he',h⟩:=List.mem_map.1 hm
  exact ⟨e',he',h.symm⟩
 have HMEM:=Aside0.mk hmem
 clear hlr hsr hf hmem
 obtain ⟨k3,hk3⟩ : ∃ k3 : Int,k3 = 1 + (lc els : Int) + 6 * (Ti.ss.length : Int):=⟨_,rfl⟩
 rw [← hk3]
 have HK3:=Aside0.mk hk3
 have HK3b:=Aside0.mk (show 0 ≤ k3 ∧ k3 ≤ 1000 by omega)
 have HLEN:=Aside0.mk hlen
 have HLC:=Aside0.mk (show lc els ≤ 48 ∧ Ti.ss.length ≤ 6 from ⟨hlc,hs6⟩)
 clear hk3 hlen hl4 hs6 hlc HLR
 go_wp2_with fail
 with_reducible refine (markA_calls _ RA.2.1.length (RA.2.1.flatMap ac) oai k3 W20 (fun b => oai = some b) HAR.out (fun b hb => hb) HK3b.out.1 (by have h1:=HK3b.out;have h2:=HRL.out;omega)).mono ?_
 rintro _ W21 ⟨rfl,har,hf⟩
 have C21:=Aside0.mk (C20.out.fr hf (fun x hx => ⟨(HAB.out x hx).1,(HAB.out x hx).2.1⟩))
 have HLM21:=Aside0.mk (show LRows W21 (.slice lai Ti.ls.length lci) (markEls mt 1 els) Ti.ol from ⟨HLM.out.row.kept (fun b hb => hf.block b (HLM.out.row.lt b hb) (fun e => (HAB.out b e).2.2 (HBO.out b (.inl hb)).1)),HLM.out.hd,fun e he => (HLM.out.ws e he).kept (fun b hb => hf.block b ((HLM.out.ws e he).lt b hb) (fun e9 => by
  obtain ⟨e',he',h9⟩:=HMEM.out e he
  exact (HAB.out b e9).2.2 (HBO.out b (.inr ⟨e',he',h9 ▸ hb⟩)).1)),HLM.out.ap⟩)
 have HSM21:=Aside0.mk (HSM.out.kept (fun b hb => hf.block b (HSM.out.lt b hb) (fun e => (HAB.out b e).2.2 (HBS.out b hb))))
 have HAM21:=Aside0.mk har
 clear har hf HAR HLM HSM
 obtain ⟨k4,hk4⟩ : ∃ k4 : Int,k4 = k3 + 4 * (RA.2.1.length : Int):=⟨_,rfl⟩
 rw [← hk4]
 have HK4:=Aside0.mk hk4
 have HK4b:=Aside0.mk (show 0 ≤ k4 by have h1:=HK3b.out;omega)
 clear hk4
 obtain ⟨y0,y1,y2,y3,-,-,-,-⟩:=box_facts (show _ = some Ti.box from C21.out.g11)
 rw [HLVi.out] at y2
 rw [HSVi.out] at y3
 go_wp2_with fail
 clear y0 y1 y2 y3
 have hq:=heldTab_calls mt HMT.out Ti.tm Ti.nx (.slice lai Ti.ls.length lci) (.slice sai Ti.ss.length sci) els Ti.ss.length Ti.ol Ti.os 1 W21 HLM21.out HSM21.out (by omega) (by have:=HLC.out;omega)
 with_reducible refine hq.mono ?_
 clear hq
 rintro _ W22 ⟨rfl,hb⟩
 have C22:=Aside0.mk (C21.out.below hb)
 have HLM22:=Aside0.mk (HLM21.out.kept (fun b hb' => hb.block b hb'))
 have HSM22:=Aside0.mk (HSM21.out.kept (fun b hb' => hb.block b (HSM21.out.lt b hb')))
 have HAM22:=Aside0.mk (HAM21.out.kept (fun b hb' => hb.block b (HAM21.out.lt b hb')))
 clear hb
 rw [← HK3.out]
 have p3 : decide (k3 < 0) = false:=decide_eq_false (by have:=HK3b.out;omega)
 go_wp2_with fail
 clear p3
 with_reducible refine (heldA_calls _ RA.2.1.length oai k3 W22 HAM22.out HK3b.out.1 (by have h1:=HK3b.out;have h2:=HRL.out;omega)).mono ?_
 rintro _ W23 ⟨rfl,hb⟩
 have C23:=Aside0.mk (C22.out.below hb)
 have HLM23:=Aside0.mk (HLM22.out.kept (fun b hb' => hb.block b hb'))
 have HSM23:=Aside0.mk (HSM22.out.kept (fun b hb' => hb.block b (HSM22.out.lt b hb')))
 have HAM23:=Aside0.mk (HAM22.out.kept (fun b hb' => hb.block b (HAM22.out.lt b hb')))
 clear hb
 rw [← HK4.out]
 have p3 : decide (k4 < 0) = false:=decide_eq_false (by have:=HK4b.out;omega)
 go_wp2_with fail
 clear p3
 refine (laws_toRequestS.calls k A c0 l m _ (Kd.C_below HR.out C23.out.b) HC.out H2.out).mono ?_
 rintro _ W24 ⟨v_,rfl,hrow,hb⟩
 obtain ⟨a4,d4,rfl,hl,hcc⟩:=Kd.R_reads hrow
 have HL4:=Aside0.mk hl
 have HCC4:=Aside0.mk hcc
 have C24:=Aside0.mk (C23.out.below hb)
 have HLM24:=Aside0.mk (HLM23.out.kept (fun b hb' => hb.block b hb'))
 have HSM24:=Aside0.mk (HSM23.out.kept (fun b hb' => hb.block b (HSM23.out.lt b hb')))
 have HAM24:=Aside0.mk (HAM23.out.kept (fun b hb' => hb.block b (HAM23.out.lt b hb')))
 clear hrow hb hl hcc
 go_wp2_with fail
 refine (laws_toIntS.calls k B c1 ts ts _ (Kd.C_below HR'.out C24.out.b) HC'.out H3.out).mono ?_
 rintro _ W25 ⟨v_,rfl,hrow,hb⟩
 obtain ⟨b4,e4,rfl,hl,hcc⟩:=Kd.R_reads hrow
 have HM4:=Aside0.mk hl
 have HDD4:=Aside0.mk hcc
 have C25:=Aside0.mk (C24.out.below hb)
 have HLM25:=Aside0.mk (HLM24.out.kept (fun b hb' => hb.block b hb'))
 have HSM25:=Aside0.mk (HSM24.out.kept (fun b hb' => hb.block b (HSM24.out.lt b hb')))
 have HAM25:=Aside0.mk (HAM24.out.kept (fun b hb' => hb.block b (HAM24.out.lt b hb')))
 have HX25:=Aside0.mk (Kd.C_below HCC4.out hb)
 clear hrow hb hl hcc
 go_wp2_with fail
 have hq:=runI_calls a4 d4 m b4 e4 ts W25 HX25.out HS.out HDD4.out HL4.out HM4.out
 rw [← HRA.out] at hq
 with_reducible refine hq.mono ?_
 clear hq
 rintro _ W26 ⟨tv,avh,rfl,hres,hb⟩
 obtain ⟨Th,oah,rfl,hp,hv⟩:=Res.hv hres
 have HPh:=Aside0.mk hp
 obtain ⟨lah,lch,hlv⟩:=hv.tv.rl.slice
 obtain ⟨sah,sch,hsv⟩:=hv.tv.rs.slice
 have HLVh:=Aside0.mk hlv
 have HSVh:=Aside0.mk hsv
 have hb9:=below_alloc (Below.refl W26.heap.size W26) (.cells #[.int .i64 Th.tm,.int .i64 Th.nx,.slice lah Th.ls.length lch,.slice sah Th.ss.length sch] 31 (0,0))
 have hbb:=hb.trans (Below.mono hb9 hb.size)
 have HH27:=Aside0.mk (show Hv _ Th avh RA.2.1 oah W25.heap.size W26.heap.size from ⟨hv.tv.below hb9,hv.row.kept (fun b hb => hb9.block b (hv.row.lt b hb)),hv.ge,hv.ap⟩)
 have HG27:=Aside0.mk (show (W26.alloc (.cells #[.int .i64 Th.tm,.int .i64 Th.nx,.slice lah Th.ls.length lch,.slice sah Th.ss.length sch] 31 (0,0))).heap[W26.heap.size]? = some Th.box by unfold Tv.box;rw [hlv,hsv];exact heap_alloc_new W26 _)
 have C27:=Aside0.mk (C25.out.below hbb)
 have HLM27:=Aside0.mk (HLM25.out.kept (fun b hb' => hbb.block b hb'))
 have HSM27:=Aside0.mk (HSM25.out.kept (fun b hb' => hbb.block b (HSM25.out.lt b hb')))
 have HAM27:=Aside0.mk (HAM25.out.kept (fun b hb' => hbb.block b (HAM25.out.lt b hb')))
 unfold tbV
 rw [hlv,hsv]
 clear hb hp hv hres hlv hsv hb9 hbb
 go_upto_region 35 with fail
 change Code.wp _ _ _ _ (W26.alloc (.cells #[.int .i64 Th.tm,.int .i64 Th.nx,.slice lah Th.ls.length lch,.slice sah Th.ss.length sch] 31 (0,0)))
 generalize W26.alloc (.cells #[.int .i64 Th.tm,.int .i64 Th.nx,.slice lah Th.ls.length lch,.slice sah Th.ss.length sch] 31 (0,0)) = W27 at HH27 HG27 C27 HLM27 HSM27 HAM27 ⊢
 generalize W26.heap.size = n17 at HH27 HG27 ⊢
 obtain ⟨y0,y1,y2,y3,-,-,-,-⟩:=box_facts (show _ = some Th.box from HG27.out)
 rw [HLVh.out] at y2
 rw [HSVh.out] at y3
 obtain ⟨z0,z1,z2,z3,-,-,-,-⟩:=box_facts (show _ = some Ts.box from C27.out.g6)
 rw [HLVs.out] at z2
 rw [HSVs.out] at z3
 go_wp2_with fail
 clear y0 y1 y2 y3 z0 z1 z2 z3
 have hq:=eqTab_calls W27 Th Ts HH27.out.tv C27.out.hs.tv (by rw [HPh.out,HPs.out])
 unfold tvV at hq
 rw [HLVh.out,HSVh.out,HLVs.out,HSVs.out] at hq
 with_reducible refine hq.mono ?_
 clear hq
 rintro _ W28 ⟨rfl,hb⟩
 have C28:=Aside0.mk (C27.out.below hb)
 have HLM28:=Aside0.mk (HLM27.out.kept (fun b hb' => hb.block b hb'))
 have HSM28:=Aside0.mk (HSM27.out.kept (fun b hb' => hb.block b (HSM27.out.lt b hb')))
 have HAM28:=Aside0.mk (HAM27.out.kept (fun b hb' => hb.block b (HAM27.out.lt b hb')))
 have HH28:=Aside0.mk (HH27.out.below hb)
 clear hb
 go_wp2_with fail
 with_reducible refine (eqAns_calls k W28 avh avs RA.2.1 _ oas HH28.out.row C28.out.hs.row (H6.out _ (by have:=HRL.out;omega))).mono ?_
 rintro _ W29 ⟨rfl,hb⟩
 have C29:=Aside0.mk (C28.out.below hb)
 have HLM29:=Aside0.mk (HLM28.out.kept (fun b hb' => hb.block b hb'))
 have HSM29:=Aside0.mk (HSM28.out.kept (fun b hb' => hb.block b (HSM28.out.lt b hb')))
 have HAM29:=Aside0.mk (HAM28.out.kept (fun b hb' => hb.block b (HAM28.out.lt b hb')))
 have HH29:=Aside0.mk (HH28.out.below hb)
 clear hb
 obtain ⟨y0,y1,y2,y3,-,-,-,-⟩:=box_facts (show _ = some Ti.box from C29.out.g11)
 rw [HLVi.out] at y2
 rw [HSVi.out] at y3
 go_wp2_with fail
 clear y0 y1 y2 y3
 have hq:=heldTab_calls mt HMT.out Ti.tm Ti.nx (.slice lai Ti.ls.length lci) (.slice sai Ti.ss.length sci) els Ti.ss.length Ti.ol Ti.os 1 W29 HLM29.out HSM29.out (by omega) (by have:=HLC.out;omega)
 with_reducible refine hq.mono ?_
 clear hq
 rintro _ W30 ⟨rfl,hb⟩
 have C30:=Aside0.mk (C29.out.below hb)
 have HLM30:=Aside0.mk (HLM29.out.kept (fun b hb' => hb.block b hb'))
 have HSM30:=Aside0.mk (HSM29.out.kept (fun b hb' => hb.block b (HSM29.out.lt b hb')))
 have HAM30:=Aside0.mk (HAM29.out.kept (fun b hb' => hb.block b (HAM29.out.lt b hb')))
 clear hb
 rw [← HK3.out]
 have p3 : decide (k3 < 0) = false:=decide_eq_false (by have:=HK3b.out;omega)
 go_wp2_with fail
 clear p3
 with_reducible refine (heldA_calls _ RA.2.1.length oai k3 W30 HAM30.out HK3b.out.1 (by have h1:=HK3b.out;have h2:=HRL.out;omega)).mono ?_
 rintro _ W31 ⟨rfl,hb⟩
 have C31:=Aside0.mk (C30.out.below hb)
 have HLM31:=Aside0.mk (HLM30.out.kept (fun b hb' => hb.block b hb'))
 have HSM31:=Aside0.mk (HSM30.out.kept (fun b hb' => hb.block b (HSM30.out.lt b hb')))
 have HAM31:=Aside0.mk (HAM30.out.kept (fun b hb' => hb.block b (HAM30.out.lt b hb')))
 clear hb
 rw [← HK4.out]
 have p3 : decide (k4 < 0) = false:=decide_eq_false (by have:=HK4b.out;omega)
 go_wp2_with fail
 go_ret
 exact ⟨rfl,C31.out.b⟩
end Go.Proofs.Ytjkanhjapddhnaa.LawRR
