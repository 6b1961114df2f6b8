/- The specification's GrantsOf, walked by hand (written by mkgrs.py). No condition. -/
-- squeezed
import Derived.Test.YtjkanhjapddhnaaSRun
import Derived.Test.YtjkanhjapddhnaaGrI
namespace Go.Proofs.Ytjkanhjapddhnaa.GrS
open Go.RowKit Go.Lib Go.Proofs.YtjkanhjapddhnaaV.PrintWords Go.Proofs.YtjkanhjapddhnaaV.PrintMore Go.Proofs.YtjkanhjapddhnaaV.PrintLast Go.Proofs.Ytjkanhjapddhnaa.Sq Go.Proofs.Ytjkanhjapddhnaa.Own Go.Proofs.Ytjkanhjapddhnaa.MarkT Go.Proofs.Ytjkanhjapddhnaa.Tb Go.Proofs.Ytjkanhjapddhnaa.Gr Go.Proofs.Ytjkanhjapddhnaa.Gon Go.Proofs.Ytjkanhjapddhnaa.Find Go.Proofs.Ytjkanhjapddhnaa.Pos Go.Proofs.Ytjkanhjapddhnaa.Pu Go.Proofs.Ytjkanhjapddhnaa.Ctx Go.Proofs.Ytjkanhjapddhnaa.InsR Go.Proofs.Ytjkanhjapddhnaa.AppN Go.Proofs.Ytjkanhjapddhnaa.Inv Go.Proofs.Ytjkanhjapddhnaa.Sns Go.Proofs.Ytjkanhjapddhnaa.Rp Go.Proofs.Ytjkanhjapddhnaa.Cod Go.Proofs.Ytjkanhjapddhnaa.Run Go.Proofs.Ytjkanhjapddhnaa.SGr Go.Proofs.Ytjkanhjapddhnaa.SOwn Go.Proofs.Ytjkanhjapddhnaa.SLib Go.Proofs.Ytjkanhjapddhnaa.SExp Go.Proofs.Ytjkanhjapddhnaa.SDo Go.Proofs.Ytjkanhjapddhnaa.SApp Go.Proofs.Ytjkanhjapddhnaa.SRun Go.Proofs.Ytjkanhjapddhnaa.GrP Go.Proofs.Ytjkanhjapddhnaa.GrI Go.Proofs.Ytjkanhjapddhnaa.PFnExactRunRequests
set_option linter.unusedVariables false
set_option linter.unusedSimpArgs false
set_option maxHeartbeats 20000000
set_option maxRecDepth 100000
structure O4 (w wx : World) (g n : Nat) (T T2 : Tv) (av : Value) (gs : List GR) (oa : Option Nat) : Prop where
 o : O3 w wx n T2 av gs oa
 bg : wx.heap[g]? = some T.box
 ag : oa ≠ some g
theorem O4.below {w wx wy : World} {g n : Nat} {T T2 : Tv} {av : Value} {gs : List GR} {oa : Option Nat} (h : O4 w wx g n T T2 av gs oa) (hb : Below wx.heap.size wx wy) : O4 w wy g n T T2 av gs oa:=⟨h.o.below hb,(hb.block _ (blk_lt h.bg)).trans h.bg,h.ag⟩
theorem O4.app {w wx wy : World} {g n : Nat} {T T2 : Tv} {av av' : Value} {gs : List GR} {oa oa' : Option Nat} {a : GR} (h : O4 w wx g n T T2 av gs oa) (hr : Row wy 96 4 av' (gs.length + 1) (gs.flatMap gc ++ gc a) oa') (ho : oa' = oa ∨ ∀ k,oa' = some k → wx.heap.size ≤ k) (hf : Fr (fun k => oa = some k) wx wy) : O4 w wy g n T T2 av' (gs ++ [a]) oa' :=
 ⟨h.o.app hr ho hf,hf.blk h.bg h.ag,fun e => by
  rcases ho with ho|ho
  ·
   exact h.ag (ho ▸ e)
  ·
   have h1:=ho g e
   have h2:=blk_lt h.bg
   omega⟩
theorem O4.back {w wx : World} {g n : Nat} {T T2 : Tv} {av : Value} {gs : List GR} {oa : Option Nat} (h : O4 w wx g n T T2 av gs oa) (hg : ∀ b,some b ∈ T2.blocks → b ≠ g) (hw : w.heap.size ≤ g) : O3 w (w4 wx g (.int .i64 T2.tm) (.int .i64 T2.nx) T2.vl T2.vs) g T2 av gs oa:=by
 have hf : Fr (fun x => x = g) wx (w4 wx g (.int .i64 T2.tm) (.int .i64 T2.nx) T2.vl T2.vs):=Fr.four (S:=fun x => x = g) (Fr.refl _ wx) (.inl rfl) _ _ _ _
 have hb:=h.bg
 unfold Tv.box at hb
 exact ⟨⟨h.o.tb.v.kept (fun b hb => hf.block b (h.o.tb.v.lt b hb) (fun e => hg b hb e)),four_set hb _ _ _ _,fun o ho e => by subst e;exact hg g ho rfl⟩,h.o.row.kept (fun b hb => hf.block b (h.o.row.lt b hb) (fun e => h.ag (by rw [hb,e]))),h.o.ow,h.ag,h.o.oT,h.o.fr hf (fun x hx => hx ▸ hw),hw⟩
theorem runAll_code (l : List RQ) (ts : List Int) : (runAll l ts).2.2 = codeP l ts:=by
 unfold runAll
 split
 ·
  rename_i h;exact h.symm
 ·
  rfl
theorem grantsS_calls (A : Option Addr) (c0 : Nat) (l : List RQ) (B : Option Addr) (c1 : Nat) (ts : List Int) (w : World) (hr : Kd.C k94 w A l.length l) (hs : ∀ r ∈ l,r.f4.size ≤ 140737488351232) (hr' : Kd.C (Kd.int .i64) w B ts.length ts) (hc : l.length ≤ c0) (hc' : ts.length ≤ c1) :
  Calls Try.prog 22 #[.slice A l.length c0,.slice B ts.length c1] w fun e w' => ∃ av oa,e = .returned (.tuple #[av,.int .i64 (grAll l ts).2]) ∧ Row w' 96 4 av (grAll l ts).1.length ((grAll l ts).1.flatMap gc) oa ∧ (∀ b,oa = some b → w.heap.size ≤ b) ∧ Below w.heap.size w w':=by
 have HR:=Aside0.mk hr
 have HR':=Aside0.mk hr'
 have hqr:=runSS_calls A c0 l B c1 ts w hr hs hr' hc hc'
 have hn : l.length ≤ 9223372036854775807:=hr.2.1
 have hn' : ts.length ≤ 9223372036854775807:=hr'.2.1
 clear hr hr' hs hc hc'
 obtain ⟨GA,hGA⟩ : ∃ GA,GA = grAll l ts:=⟨_,rfl⟩
 rw [← hGA]
 have HGA:=Aside0.mk hGA
 obtain ⟨cd,hcd⟩ : ∃ cd,cd = codeP l ts:=⟨_,rfl⟩
 have HF:=Aside0.mk (show cd ≠ 0 → GA = ([],cd) from fun h => by rw [hGA,grAll,if_neg (by rw [← hcd];exact h),← hcd])
 have HQR:=Aside0.mk hqr
 have HCD:=Aside0.mk hcd
 clear hGA hcd hqr
 go_enter Try.func22,Try.ntmps22
 by_cases h1 : 4096 < (l.length : Int)
 ·
  have q0 : decide (4096 < (l.length : Int)) = true:=decide_eq_true h1
  have h2 : cd = 2:=by rw [HCD.out];exact if_pos (.inl (by omega))
  have HE:=Aside0.mk (show GA = ([],2) by rw [HF.out (by omega),h2])
  clear HF h2
  go_wp2_with fail
  go_ret2
  rw [HE.out]
  exact ⟨_,none,rfl,nil_rowG _ _,(fun b hb => by cases hb),below_alloc (Below.refl _ w) _⟩
 have q0 : decide (4096 < (l.length : Int)) = false:=decide_eq_false h1
 by_cases h2 : 4096 < (ts.length : Int)
 ·
  have q1 : decide (4096 < (ts.length : Int)) = true:=decide_eq_true h2
  have h3 : cd = 2:=by rw [HCD.out];exact if_pos (.inr (by omega))
  have HE:=Aside0.mk (show GA = ([],2) by rw [HF.out (by omega),h3])
  clear HF h1 h2 h3
  go_wp2_with fail
  go_ret2
  rw [HE.out]
  exact ⟨_,none,rfl,nil_rowG _ _,(fun b hb => by cases hb),below_alloc (Below.refl _ w) _⟩
 have q1 : decide (4096 < (ts.length : Int)) = false:=decide_eq_false h2
 go_wp2_with fail
 have hqr:=HQR.out
 rw [runAll_code,← HCD.out] at hqr
 with_reducible refine hqr.mono ?_
 clear hqr
 rintro _ W0 ⟨tv,av0,rfl,hres,hb⟩
 obtain ⟨Tr,orr,rfl,-,hv,-⟩:=hres.ex
 obtain ⟨la,lc,hlv⟩:=hv.rl.slice
 obtain ⟨sa,sc_,hsv⟩:=hv.rs.slice
 unfold tbV
 rw [hlv,hsv]
 have HB0:=Aside0.mk hb
 clear hb hres hv hlv hsv
 go_upto_region 4 with fail
 change Code.wp _ _ _ _ (W0.alloc (.cells #[.int .i64 Tr.tm,.int .i64 Tr.nx,.slice la Tr.ls.length lc,.slice sa Tr.ss.length sc_] 31 (0,0)))
 have hb1:=below_alloc (Below.refl W0.heap.size W0) (.cells #[.int .i64 Tr.tm,.int .i64 Tr.nx,.slice la Tr.ls.length lc,.slice sa Tr.ss.length sc_] 31 (0,0))
 have HB1:=Aside0.mk (below_then HB0.out HB0.out.size hb1)
 generalize W0.alloc (.cells #[.int .i64 Tr.tm,.int .i64 Tr.nx,.slice la Tr.ls.length lc,.slice sa Tr.ss.length sc_] 31 (0,0)) = W1 at HB1 ⊢
 clear hb1 HB0 q0 q1
 by_cases h0 : cd = 0
 rotate_left
 ·
  have q0 : (cd != 0) = true:=by simpa using h0
  have HE:=Aside0.mk (HF.out h0)
  clear HF h0
  go_wp2_with fail
  go_ret2
  rw [HE.out]
  exact ⟨_,none,rfl,nil_rowG _ _,(fun b hb => by cases hb),below_then HB1.out HB1.out.size (below_alloc (Below.refl _ W1) _)⟩
 have q0 : (cd != 0) = false:=by rw [h0];rfl
 have HG0:=Aside0.mk (show GA = ((grS (newT,[]) (l.zip ts)).2,0) by rw [HGA.out,grAll,if_pos (HCD.out.symm.trans h0)])
 obtain ⟨hl2,hlt,ha1,ha2⟩:=code_zero (HCD.out.symm.trans h0)
 have HL2:=Aside0.mk hl2
 have HLT:=Aside0.mk hlt
 have HA1:=Aside0.mk ha1
 have HA2:=Aside0.mk ha2
 clear h0 hl2 hlt ha1 ha2 HF HQR
 go_upto_region 7 with fail
 change Code.wp _ _ _ _ (W1.alloc (.cells #[] 96 (0,0)))
 have hb2:=below_alloc (Below.refl W1.heap.size W1) (.cells #[] 96 (0,0))
 have HB2:=Aside0.mk (below_then HB1.out HB1.out.size hb2)
 generalize W1.alloc (.cells #[] 96 (0,0)) = W2 at HB2 ⊢
 generalize hav : (Value.slice (some ⟨W1.heap.size,0,none⟩) 0 0) = av1
 have HAV:=Aside0.mk hav
 clear hb2 HB1 q0 hav
 go_wp2_with fail
 with_reducible refine (newS_calls W2).mono ?_
 rintro _ W3 ⟨T0,rfl,hp0,ht0,hk0,hb⟩
 have HB3:=Aside0.mk (below_then HB2.out HB2.out.size hb)
 have HP0:=Aside0.mk hp0
 have HT0:=Aside0.mk ht0
 have HK0:=Aside0.mk (show ∀ b,some b ∈ T0.blocks → w.heap.size ≤ b from fun b hb' => Nat.le_trans HB2.out.size (hk0 b hb'))
 obtain ⟨la0,lc0,hlv⟩:=ht0.rl.slice
 obtain ⟨sa0,sc0,hsv⟩:=ht0.rs.slice
 unfold tvV
 rw [hlv,hsv]
 have HLV0:=Aside0.mk hlv
 have HSV0:=Aside0.mk hsv
 clear hb hp0 ht0 hk0 hlv hsv
 go_upto_region 8 with fail
 change Code.wp _ _ _ _ (W3.alloc (tbO T0.tm T0.nx (.slice la0 T0.ls.length lc0) (.slice sa0 T0.ss.length sc0)))
 rw [← HLV0.out,← HSV0.out]
 have hb4:=below_alloc (Below.refl W3.heap.size W3) (tbO T0.tm T0.nx T0.vl T0.vs)
 have HO0:=Aside0.mk (show O3 w (W3.alloc (tbO T0.tm T0.nx T0.vl T0.vs)) W3.heap.size T0 av1 [] none from ⟨tv_box HT0.out hb4 (show (W3.alloc (tbO T0.tm T0.nx T0.vl T0.vs)).heap[W3.heap.size]? = some T0.box from heap_alloc_new W3 _) (Nat.le_refl _),by rw [← HAV.out];exact nil_rowG _ _,fun b hb => hb.elim (fun h => HK0.out b h) (fun h => by cases h),by simp,fun x _ => apart_none' _,below_then HB3.out HB3.out.size hb4,HB3.out.size⟩)
 generalize W3.alloc (tbO T0.tm T0.nx T0.vl T0.vs) = W4 at HO0 ⊢
 generalize W3.heap.size = g at HO0 ⊢
 clear hb4
 go_wp2_with fail
 go_loopg [11,9] l.length (fun gh v11 v9 wx => ∃ (i : Nat) (T : Tv) (gs : List GR) (oa : Option Nat),v11 = .int .i64 i ∧ i ≤ l.length ∧ Aside0 (i + gh = l.length) ∧ Aside0 (gs.length ≤ 4100 * i) ∧ Aside0 ((Tv.pu T,gs) = grS (newT,[]) ((l.zip ts).take i)) ∧ Aside0 (TGood (1 + 5 * i) (Tv.pu T)) ∧ Aside0 (O3 w wx g T v9 gs oa))
 case atStart => exact ⟨0,T0,[],none,rfl,Nat.zero_le _,⟨by omega⟩,⟨by simp⟩,⟨by rw [HP0.out];rfl⟩,⟨by rw [HP0.out];exact new_good⟩,HO0⟩
 case round =>
  obtain ⟨wo,rfl⟩ : ∃ wo : World,wo = wr:=⟨_,rfl⟩
  obtain ⟨go,rfl⟩ : ∃ go : Nat,go = gk:=⟨_,rfl⟩
  obtain ⟨i,T,gs,oa,rfl,hi,HMM,HLA,HRS,HGD,HO⟩:=hrel
  have HL2c:=HL2.out
  by_cases hlt : i < l.length
  ·
   have HRQ0 : Aside0 (∀ W_ : World,Below w.heap.size w W_ → ∃ ad,A = some ad ∧ W_.cell? (ad.add (i * 5)) = some (.int .i64 (l[i]).f0) ∧ W_.cell? ⟨(ad.add (i * 5)).block,(ad.add (i * 5)).off + 1,none⟩ = some (.int .i64 (l[i]).f1) ∧ W_.cell? ⟨(ad.add (i * 5)).block,(ad.add (i * 5)).off + 2,none⟩ = some (.int .i64 (l[i]).f2) ∧ W_.cell? ⟨(ad.add (i * 5)).block,(ad.add (i * 5)).off + 3,none⟩ = some (.int .i64 (l[i]).f3) ∧ W_.cell? ⟨(ad.add (i * 5)).block,(ad.add (i * 5)).off + 4,none⟩ = some (.string (l[i]).f4)):=⟨fun W_ hb => by
    obtain ⟨ad,eA,z0,z1,z2,z3,z4⟩:=at_T94 (Kd.C_below HR.out hb) (i : Int) (by omega) (by omega)
    simp only [Int.toNat_natCast] at z0 z1 z2 z3 z4
    have hd : rd_T94 l (i : Int) = l[i]:=by unfold rd_T94;simp [hlt]
    rw [hd] at z0 z1 z2 z3 z4
    exact ⟨ad,eA,z0,z1,z2,z3,z4⟩⟩
   obtain ⟨ad,eA,-⟩:=HRQ0.out wo HO.out.be
   have hlt' : i < ts.length:=by have:=HLT.out;omega
   have HTI0 : Aside0 (∀ W_ : World,Below w.heap.size w W_ → ∃ ad,B = some ad ∧ W_.cell? (ad.add i) = some (.int .i64 ts[i])):=⟨fun W_ hb => by
    obtain ⟨ad',eB,y0⟩:=Kd.at_int (Kd.C_below HR'.out hb) (i : Int) (by omega) (by omega)
    simp only [Int.toNat_natCast] at y0
    have hd : rd ts (i : Int) = ts[i]:=by unfold rd;simp [hlt']
    rw [hd] at y0
    exact ⟨ad',eB,y0⟩⟩
   obtain ⟨ad',eB,-⟩:=HTI0.out wo HO.out.be
   subst eA
   subst eB
   have HRG:=Aside0.mk (okR_good (List.all_eq_true.1 HA1.out _ (List.getElem_mem hlt)))
   have HTG:=Aside0.mk (okT_good (List.all_eq_true.1 HA2.out _ (List.getElem_mem hlt')))
   have HZT:=Aside0.mk (zip_take (l:=l) (ts:=ts) i hlt hlt')
   obtain ⟨r,hrk⟩ : ∃ r,r = l[i]:=⟨_,rfl⟩
   obtain ⟨tn,htn⟩ : ∃ tn,tn = ts[i]:=⟨_,rfl⟩
   rw [← hrk] at HRQ0 HRG HZT
   rw [← htn] at HTI0 HTG HZT
   have HRQ : Aside0 (∀ W_ : World,Below w.heap.size w W_ → W_.cell? (ad.add (i * 5)) = some (.int .i64 r.f0) ∧ W_.cell? ⟨(ad.add (i * 5)).block,(ad.add (i * 5)).off + 1,none⟩ = some (.int .i64 r.f1) ∧ W_.cell? ⟨(ad.add (i * 5)).block,(ad.add (i * 5)).off + 2,none⟩ = some (.int .i64 r.f2) ∧ W_.cell? ⟨(ad.add (i * 5)).block,(ad.add (i * 5)).off + 3,none⟩ = some (.int .i64 r.f3) ∧ W_.cell? ⟨(ad.add (i * 5)).block,(ad.add (i * 5)).off + 4,none⟩ = some (.string r.f4)):=⟨fun W_ hb => by
    obtain ⟨ad2,e,h⟩:=HRQ0.out W_ hb
    injection e with e
    rw [e]
    exact h⟩
   have HTI : Aside0 (∀ W_ : World,Below w.heap.size w W_ → W_.cell? (ad'.add i) = some (.int .i64 tn)):=⟨fun W_ hb => by
    obtain ⟨ad2,e,h⟩:=HTI0.out W_ hb
    injection e with e
    rw [e]
    exact h⟩
   clear HRQ0 HTI0 hrk htn
   have q0 : ((i : Int) < (l.length : Int)) = True:=eq_true (by omega)
   have q1 : (0 ≤ (i : Int)) = True:=eq_true (by omega)
   have q2 : decide ((i : Int) < (l.length : Int)) = true:=decide_eq_true (by omega)
   have q3 : ((i : Int) < (ts.length : Int)) = True:=eq_true (by omega)
   obtain ⟨W3,hw3⟩ : ∃ W3,W3 = wo:=⟨_,rfl⟩
   rw [← hw3] at HO ⊢
   clear hw3
   go_upto_region 11 with fail
   have HO4:=Aside0.mk (HO.out.below (below_drew (Below.refl _ _)))
   obtain ⟨la,lc,hlv⟩:=HO4.out.tb.v.rl.slice
   obtain ⟨sa,sc_,hsv⟩:=HO4.out.tb.v.rs.slice
   obtain ⟨y0,y1,y2,y3,-,-,-,-⟩:=HO4.out.tb.cells
   rw [hlv] at y2
   rw [hsv] at y3
   have HLV:=Aside0.mk hlv
   have HSV:=Aside0.mk hsv
   clear hlv hsv
   have t0:=HTI.out _ HO4.out.be
   obtain ⟨z0,z1,z2,z3,z4⟩:=HRQ.out _ HO4.out.be
   refine start_ (n:=17) (S:=fun w' => w'.cell? ⟨g,0,none⟩ = some (.int .i64 T.tm) ∧ w'.cell? ⟨g,1,none⟩ = some (.int .i64 T.nx) ∧ w'.cell? ⟨g,2,none⟩ = some (.slice la T.ls.length lc) ∧ w'.cell? ⟨g,3,none⟩ = some (.slice sa T.ss.length sc_) ∧ w'.cell? (ad'.add i) = some (.int .i64 tn) ∧ w'.cell? (ad.add (i * 5)) = some (.int .i64 r.f0) ∧ w'.cell? ⟨(ad.add (i * 5)).block,(ad.add (i * 5)).off + 1,none⟩ = some (.int .i64 r.f1) ∧ w'.cell? ⟨(ad.add (i * 5)).block,(ad.add (i * 5)).off + 2,none⟩ = some (.int .i64 r.f2) ∧ w'.cell? ⟨(ad.add (i * 5)).block,(ad.add (i * 5)).off + 3,none⟩ = some (.int .i64 r.f3) ∧ w'.cell? ⟨(ad.add (i * 5)).block,(ad.add (i * 5)).off + 4,none⟩ = some (.string r.f4)) (ds:=[16]) #[false,false,false,false,false,false,false,false,false,false,false,false,false,false,false,false,false] (by kernel_rfl) rfl rfl ⟨y0,y1,y2,y3,t0,z0,z1,z2,z3,z4⟩ (fun hHeld => ?_)
   clear y0 y1 y2 y3 t0 z0 z1 z2 z3 z4
   generalize W3.drew = V at HO4 hHeld ⊢
   have HSF : Aside0 (∀ W_ : World,Below V.heap.size V W_ → (W_.cell? ⟨g,0,none⟩ = some (.int .i64 T.tm) ∧ W_.cell? ⟨g,1,none⟩ = some (.int .i64 T.nx) ∧ W_.cell? ⟨g,2,none⟩ = some (.slice la T.ls.length lc) ∧ W_.cell? ⟨g,3,none⟩ = some (.slice sa T.ss.length sc_) ∧ W_.cell? (ad'.add i) = some (.int .i64 tn) ∧ W_.cell? (ad.add (i * 5)) = some (.int .i64 r.f0) ∧ W_.cell? ⟨(ad.add (i * 5)).block,(ad.add (i * 5)).off + 1,none⟩ = some (.int .i64 r.f1) ∧ W_.cell? ⟨(ad.add (i * 5)).block,(ad.add (i * 5)).off + 2,none⟩ = some (.int .i64 r.f2) ∧ W_.cell? ⟨(ad.add (i * 5)).block,(ad.add (i * 5)).off + 3,none⟩ = some (.int .i64 r.f3) ∧ W_.cell? ⟨(ad.add (i * 5)).block,(ad.add (i * 5)).off + 4,none⟩ = some (.string r.f4))):=⟨fun W_ hb_ => by have h_:=HO4.out.below hb_;obtain ⟨y0_,y1_,y2_,y3_,-,-,-,-⟩:=h_.tb.cells;rw [HLV.out] at y2_;rw [HSV.out] at y3_;obtain ⟨p0_,p1_,p2_,p3_,p4_⟩:=HRQ.out W_ h_.be;exact ⟨y0_,y1_,y2_,y3_,HTI.out W_ h_.be,p0_,p1_,p2_,p3_,p4_⟩⟩
   have HBV:=Aside0.mk (Below.refl V.heap.size V)
   have HNN:=Aside0.mk (show (1 + 5 * (i : Int)) ≤ 800000 by omega)
   refine pq 1 (some 47) ?_
   refine pq 2 (some 48) ?_
   refine pq 3 (some 49) ?_
   refine pq 5 (some 51) ?_
   refine pq 6 (some 52) ?_
   refine pq 7 (some 53) ?_
   refine tq 0 (some 46) hHeld ?_
   refine tq 4 (some 50) hHeld ?_
   refine tq 8 (some 54) hHeld ?_
   refine join_ (σ:=Tv × AN × Nat × Nat) 2 #[true,true,true,true,true,true,true,true,true,true,true,true,true,true,true,false,false] (fun s_ => [(55,.tuple #[tvV s_.1,anV s_.2.1]),(45,.tuple #[tvV s_.1,anV s_.2.1]),(56,tvV s_.1),(57,anV s_.2.1),(12,.pointer (some ⟨s_.2.2.1,0,none⟩)),(13,.pointer (some ⟨s_.2.2.2,0,none⟩))]) (fun s_ w_ => Below V.heap.size V w_ ∧ (Tv.pu s_.1,s_.2.1) = reqX (Tv.pu T) tn r ∧ TV w_ s_.1 ∧ (∀ b,some b ∈ s_.1.blocks → V.heap.size ≤ b) ∧ w_.heap[s_.2.2.1]? = some (tbO 0 0 (.slice none 0 0) (.slice none 0 0)) ∧ w_.heap[s_.2.2.2]? = some (anO ⟨0,0,0,0⟩) ∧ V.heap.size ≤ s_.2.2.1 ∧ V.heap.size ≤ s_.2.2.2 ∧ s_.2.2.1 ≠ s_.2.2.2 ∧ (∀ b,some b ∈ s_.1.blocks → b ≠ s_.2.2.1) ∧ (∀ b,some b ∈ s_.1.blocks → b ≠ s_.2.2.2)) ?_ ?_
   rotate_left
   ·
    intro hCont
    refine three_ (i:=9) (j:=13) (k:=14) (Ni:=some 55) (Nj:=some 12) (Nk:=some 13) #[true,true,true,true,true,true,true,true,true,true,false,false,false,false,false,false,false] #[true,true,true,true,true,true,true,true,true,false,false,false,false,true,false,false,false] #[true,true,true,true,true,true,true,true,true,false,false,false,false,false,true,false,false] rfl rfl rfl rfl rfl rfl (by kernel_rfl) (by decide) (by decide) (by decide) (fun K hK => ?_) (fun K hK => ?_) (fun K hK => ?_)
    ·
     skip
     have hq:=sapply_calls V T tn r (1 + 5 * i) (HO4.out.tb.v.below HBV.out) HGD.out HNN.out HTG.out HRG.out
     unfold tvV rqV at hq
     rw [HLV.out,HSV.out] at hq
     refine goes_ Try.func57 (by kernel_rfl) rfl #[.agg #[.int .i64 T.tm,.int .i64 T.nx,.slice la T.ls.length lc,.slice sa T.ss.length sc_],.int .i64 tn,.agg #[.int .i64 r.f0,.int .i64 r.f1,.int .i64 r.f2,.int .i64 r.f3,.string r.f4]] (by rfl) rfl rfl (by simp only [List.map_toArray,List.map_cons,List.map_nil];rfl) ?_
     with_reducible refine (hq).mono ?_
     rintro _ Y9 ⟨T2,a,rfl,hp2,ht2,hk2,hb_⟩
     refine ⟨_,rfl,?_⟩
     have HBY9:=Aside0.mk (below_then HBV.out HBV.out.size hb_)
     have HTY9:=Aside0.mk ht2
     have HP2:=Aside0.mk hp2
     have HK2:=Aside0.mk hk2
     clear hq hp2 ht2 hk2 hb_ hHeld
     refine hK.out _ _ ⟨(HSF.out Y9 HBY9.out).1,(HSF.out Y9 HBY9.out).2.1,(HSF.out Y9 HBY9.out).2.2.1,(HSF.out Y9 HBY9.out).2.2.2.1,(HSF.out Y9 HBY9.out).2.2.2.2.1,(HSF.out Y9 HBY9.out).2.2.2.2.2.1,(HSF.out Y9 HBY9.out).2.2.2.2.2.2.1,(HSF.out Y9 HBY9.out).2.2.2.2.2.2.2.1,(HSF.out Y9 HBY9.out).2.2.2.2.2.2.2.2.1,(HSF.out Y9 HBY9.out).2.2.2.2.2.2.2.2.2⟩ (fun hHeld => ?_)
     clear hK K
     refine mq ?_
     refine pq 10 (some 45) ?_
     refine pq 11 (some 56) ?_
     refine pq 12 (some 57) ?_
     refine two_ (i:=13) (j:=14) (Ni:=some 12) (Nj:=some 13) #[true,true,true,true,true,true,true,true,true,true,true,true,true,true,false,false,false] #[true,true,true,true,true,true,true,true,true,true,true,true,true,false,true,false,false] rfl rfl rfl rfl (by kernel_rfl) (by decide) (by decide) (fun K hK => ?_) (fun K hK => ?_)
     ·
      skip
      refine vq ?_
      have hb_:=below_alloc (Below.refl Y9.heap.size Y9) (.cells #[.int .i64 0,.int .i64 0,.slice none 0 0,.slice none 0 0] 31 (0,0))
      have HBY9_13:=Aside0.mk (below_then HBY9.out HBY9.out.size hb_)
      have HN13Y9_13:=Aside0.mk (heap_alloc_new Y9 (.cells #[.int .i64 0,.int .i64 0,.slice none 0 0,.slice none 0 0] 31 (0,0)))
      have HTY9_13:=Aside0.mk (HTY9.out.below hb_)
      clear hb_ hHeld
      generalize hY_ : Y9.alloc _ = Y9_13 at HBY9_13 HN13Y9_13 HTY9_13 ⊢
      clear hY_
      refine hK.out _ _ ⟨(HSF.out Y9_13 HBY9_13.out).1,(HSF.out Y9_13 HBY9_13.out).2.1,(HSF.out Y9_13 HBY9_13.out).2.2.1,(HSF.out Y9_13 HBY9_13.out).2.2.2.1,(HSF.out Y9_13 HBY9_13.out).2.2.2.2.1,(HSF.out Y9_13 HBY9_13.out).2.2.2.2.2.1,(HSF.out Y9_13 HBY9_13.out).2.2.2.2.2.2.1,(HSF.out Y9_13 HBY9_13.out).2.2.2.2.2.2.2.1,(HSF.out Y9_13 HBY9_13.out).2.2.2.2.2.2.2.2.1,(HSF.out Y9_13 HBY9_13.out).2.2.2.2.2.2.2.2.2⟩ (fun hHeld => ?_)
      clear hK K
      refine mq ?_
      refine nq 14 (some 13) fun K hK => ?_
      refine vq ?_
      have hb_:=below_alloc (Below.refl Y9_13.heap.size Y9_13) (.cells #[.int .i64 0,.int .i64 0,.int .i64 0,.int .i64 0] 75 (0,0))
      have HBY9_13_14:=Aside0.mk (below_then HBY9_13.out HBY9_13.out.size hb_)
      have HN14Y9_13_14:=Aside0.mk (heap_alloc_new Y9_13 (.cells #[.int .i64 0,.int .i64 0,.int .i64 0,.int .i64 0] 75 (0,0)))
      have HN13Y9_13_14:=Aside0.mk ((hb_.block _ (blk_lt HN13Y9_13.out)).trans HN13Y9_13.out)
      have HTY9_13_14:=Aside0.mk (HTY9_13.out.below hb_)
      clear hb_ hHeld
      generalize hY_ : Y9_13.alloc _ = Y9_13_14 at HBY9_13_14 HN13Y9_13_14 HN14Y9_13_14 HTY9_13_14 ⊢
      clear hY_
      refine hK.out _ _ ⟨(HSF.out Y9_13_14 HBY9_13_14.out).1,(HSF.out Y9_13_14 HBY9_13_14.out).2.1,(HSF.out Y9_13_14 HBY9_13_14.out).2.2.1,(HSF.out Y9_13_14 HBY9_13_14.out).2.2.2.1,(HSF.out Y9_13_14 HBY9_13_14.out).2.2.2.2.1,(HSF.out Y9_13_14 HBY9_13_14.out).2.2.2.2.2.1,(HSF.out Y9_13_14 HBY9_13_14.out).2.2.2.2.2.2.1,(HSF.out Y9_13_14 HBY9_13_14.out).2.2.2.2.2.2.2.1,(HSF.out Y9_13_14 HBY9_13_14.out).2.2.2.2.2.2.2.2.1,(HSF.out Y9_13_14 HBY9_13_14.out).2.2.2.2.2.2.2.2.2⟩ (fun hHeld => ?_)
      clear hK K
      refine mq ?_
      exact norm_ (by simp only [putAll,Act.put,List.setIfInBounds_toArray,List.set_cons_zero,List.set_cons_succ]) (hCont (T2,a,Y9.heap.size,Y9_13.heap.size) _ ⟨HBY9_13_14.out,HP2.out,HTY9_13_14.out,fun b hb => Nat.le_trans HBV.out.size (HK2.out b hb),HN13Y9_13_14.out,HN14Y9_13_14.out,HBY9.out.size,HBY9_13.out.size,fun (e : Y9.heap.size = Y9_13.heap.size) => by have h1:=blk_lt HN13Y9_13.out;omega,fun b hb (e : b = Y9.heap.size) => by have h1:=HTY9.out.lt b hb;omega,fun b hb (e : b = Y9_13.heap.size) => by have h1:=HTY9_13.out.lt b hb;omega⟩)
     ·
      skip
      refine vq ?_
      have hb_:=below_alloc (Below.refl Y9.heap.size Y9) (.cells #[.int .i64 0,.int .i64 0,.int .i64 0,.int .i64 0] 75 (0,0))
      have HBY9_14:=Aside0.mk (below_then HBY9.out HBY9.out.size hb_)
      have HN14Y9_14:=Aside0.mk (heap_alloc_new Y9 (.cells #[.int .i64 0,.int .i64 0,.int .i64 0,.int .i64 0] 75 (0,0)))
      have HTY9_14:=Aside0.mk (HTY9.out.below hb_)
      clear hb_ hHeld
      generalize hY_ : Y9.alloc _ = Y9_14 at HBY9_14 HN14Y9_14 HTY9_14 ⊢
      clear hY_
      refine hK.out _ _ ⟨(HSF.out Y9_14 HBY9_14.out).1,(HSF.out Y9_14 HBY9_14.out).2.1,(HSF.out Y9_14 HBY9_14.out).2.2.1,(HSF.out Y9_14 HBY9_14.out).2.2.2.1,(HSF.out Y9_14 HBY9_14.out).2.2.2.2.1,(HSF.out Y9_14 HBY9_14.out).2.2.2.2.2.1,(HSF.out Y9_14 HBY9_14.out).2.2.2.2.2.2.1,(HSF.out Y9_14 HBY9_14.out).2.2.2.2.2.2.2.1,(HSF.out Y9_14 HBY9_14.out).2.2.2.2.2.2.2.2.1,(HSF.out Y9_14 HBY9_14.out).2.2.2.2.2.2.2.2.2⟩ (fun hHeld => ?_)
      clear hK K
      refine mq ?_
      refine nq 13 (some 12) fun K hK => ?_
      refine vq ?_
      have hb_:=below_alloc (Below.refl Y9_14.heap.size Y9_14) (.cells #[.int .i64 0,.int .i64 0,.slice none 0 0,.slice none 0 0] 31 (0,0))
      have HBY9_14_13:=Aside0.mk (below_then HBY9_14.out HBY9_14.out.size hb_)
      have HN13Y9_14_13:=Aside0.mk (heap_alloc_new Y9_14 (.cells #[.int .i64 0,.int .i64 0,.slice none 0 0,.slice none 0 0] 31 (0,0)))
      have HN14Y9_14_13:=Aside0.mk ((hb_.block _ (blk_lt HN14Y9_14.out)).trans HN14Y9_14.out)
      have HTY9_14_13:=Aside0.mk (HTY9_14.out.below hb_)
      clear hb_ hHeld
      generalize hY_ : Y9_14.alloc _ = Y9_14_13 at HBY9_14_13 HN13Y9_14_13 HN14Y9_14_13 HTY9_14_13 ⊢
      clear hY_
      refine hK.out _ _ ⟨(HSF.out Y9_14_13 HBY9_14_13.out).1,(HSF.out Y9_14_13 HBY9_14_13.out).2.1,(HSF.out Y9_14_13 HBY9_14_13.out).2.2.1,(HSF.out Y9_14_13 HBY9_14_13.out).2.2.2.1,(HSF.out Y9_14_13 HBY9_14_13.out).2.2.2.2.1,(HSF.out Y9_14_13 HBY9_14_13.out).2.2.2.2.2.1,(HSF.out Y9_14_13 HBY9_14_13.out).2.2.2.2.2.2.1,(HSF.out Y9_14_13 HBY9_14_13.out).2.2.2.2.2.2.2.1,(HSF.out Y9_14_13 HBY9_14_13.out).2.2.2.2.2.2.2.2.1,(HSF.out Y9_14_13 HBY9_14_13.out).2.2.2.2.2.2.2.2.2⟩ (fun hHeld => ?_)
      clear hK K
      refine mq ?_
      exact norm_ (by simp only [putAll,Act.put,List.setIfInBounds_toArray,List.set_cons_zero,List.set_cons_succ]) (hCont (T2,a,Y9_14.heap.size,Y9.heap.size) _ ⟨HBY9_14_13.out,HP2.out,HTY9_14_13.out,fun b hb => Nat.le_trans HBV.out.size (HK2.out b hb),HN13Y9_14_13.out,HN14Y9_14_13.out,HBY9_14.out.size,HBY9.out.size,fun (e : Y9_14.heap.size = Y9.heap.size) => by have h1:=blk_lt HN14Y9_14.out;omega,fun b hb (e : b = Y9_14.heap.size) => by have h1:=HTY9_14.out.lt b hb;omega,fun b hb (e : b = Y9.heap.size) => by have h1:=HTY9.out.lt b hb;omega⟩)
    ·
     skip
     refine vq ?_
     have hb_:=below_alloc (Below.refl V.heap.size V) (.cells #[.int .i64 0,.int .i64 0,.slice none 0 0,.slice none 0 0] 31 (0,0))
     have HBY13:=Aside0.mk (below_then HBV.out HBV.out.size hb_)
     have HN13Y13:=Aside0.mk (heap_alloc_new V (.cells #[.int .i64 0,.int .i64 0,.slice none 0 0,.slice none 0 0] 31 (0,0)))
     clear hb_ hHeld
     generalize hY_ : V.alloc _ = Y13 at HBY13 HN13Y13 ⊢
     clear hY_
     refine hK.out _ _ ⟨(HSF.out Y13 HBY13.out).1,(HSF.out Y13 HBY13.out).2.1,(HSF.out Y13 HBY13.out).2.2.1,(HSF.out Y13 HBY13.out).2.2.2.1,(HSF.out Y13 HBY13.out).2.2.2.2.1,(HSF.out Y13 HBY13.out).2.2.2.2.2.1,(HSF.out Y13 HBY13.out).2.2.2.2.2.2.1,(HSF.out Y13 HBY13.out).2.2.2.2.2.2.2.1,(HSF.out Y13 HBY13.out).2.2.2.2.2.2.2.2.1,(HSF.out Y13 HBY13.out).2.2.2.2.2.2.2.2.2⟩ (fun hHeld => ?_)
     clear hK K
     refine mq ?_
     refine two_ (i:=9) (j:=14) (Ni:=some 55) (Nj:=some 13) #[true,true,true,true,true,true,true,true,true,true,false,false,false,true,false,false,false] #[true,true,true,true,true,true,true,true,true,false,false,false,false,true,true,false,false] rfl rfl rfl rfl (by kernel_rfl) (by decide) (by decide) (fun K hK => ?_) (fun K hK => ?_)
     ·
      skip
      have hq:=sapply_calls Y13 T tn r (1 + 5 * i) (HO4.out.tb.v.below HBY13.out) HGD.out HNN.out HTG.out HRG.out
      unfold tvV rqV at hq
      rw [HLV.out,HSV.out] at hq
      refine goes_ Try.func57 (by kernel_rfl) rfl #[.agg #[.int .i64 T.tm,.int .i64 T.nx,.slice la T.ls.length lc,.slice sa T.ss.length sc_],.int .i64 tn,.agg #[.int .i64 r.f0,.int .i64 r.f1,.int .i64 r.f2,.int .i64 r.f3,.string r.f4]] (by rfl) rfl rfl (by simp only [List.map_toArray,List.map_cons,List.map_nil];rfl) ?_
      with_reducible refine (hq).mono ?_
      rintro _ Y13_9 ⟨T2,a,rfl,hp2,ht2,hk2,hb_⟩
      refine ⟨_,rfl,?_⟩
      have HBY13_9:=Aside0.mk (below_then HBY13.out HBY13.out.size hb_)
      have HTY13_9:=Aside0.mk ht2
      have HP2:=Aside0.mk hp2
      have HK2:=Aside0.mk hk2
      have HN13Y13_9:=Aside0.mk ((hb_.block _ (blk_lt HN13Y13.out)).trans HN13Y13.out)
      clear hq hp2 ht2 hk2 hb_ hHeld
      refine hK.out _ _ ⟨(HSF.out Y13_9 HBY13_9.out).1,(HSF.out Y13_9 HBY13_9.out).2.1,(HSF.out Y13_9 HBY13_9.out).2.2.1,(HSF.out Y13_9 HBY13_9.out).2.2.2.1,(HSF.out Y13_9 HBY13_9.out).2.2.2.2.1,(HSF.out Y13_9 HBY13_9.out).2.2.2.2.2.1,(HSF.out Y13_9 HBY13_9.out).2.2.2.2.2.2.1,(HSF.out Y13_9 HBY13_9.out).2.2.2.2.2.2.2.1,(HSF.out Y13_9 HBY13_9.out).2.2.2.2.2.2.2.2.1,(HSF.out Y13_9 HBY13_9.out).2.2.2.2.2.2.2.2.2⟩ (fun hHeld => ?_)
      clear hK K
      refine mq ?_
      refine pq 10 (some 45) ?_
      refine pq 11 (some 56) ?_
      refine pq 12 (some 57) ?_
      refine nq 14 (some 13) fun K hK => ?_
      refine vq ?_
      have hb_:=below_alloc (Below.refl Y13_9.heap.size Y13_9) (.cells #[.int .i64 0,.int .i64 0,.int .i64 0,.int .i64 0] 75 (0,0))
      have HBY13_9_14:=Aside0.mk (below_then HBY13_9.out HBY13_9.out.size hb_)
      have HN14Y13_9_14:=Aside0.mk (heap_alloc_new Y13_9 (.cells #[.int .i64 0,.int .i64 0,.int .i64 0,.int .i64 0] 75 (0,0)))
      have HN13Y13_9_14:=Aside0.mk ((hb_.block _ (blk_lt HN13Y13_9.out)).trans HN13Y13_9.out)
      have HTY13_9_14:=Aside0.mk (HTY13_9.out.below hb_)
      clear hb_ hHeld
      generalize hY_ : Y13_9.alloc _ = Y13_9_14 at HBY13_9_14 HN13Y13_9_14 HN14Y13_9_14 HTY13_9_14 ⊢
      clear hY_
      refine hK.out _ _ ⟨(HSF.out Y13_9_14 HBY13_9_14.out).1,(HSF.out Y13_9_14 HBY13_9_14.out).2.1,(HSF.out Y13_9_14 HBY13_9_14.out).2.2.1,(HSF.out Y13_9_14 HBY13_9_14.out).2.2.2.1,(HSF.out Y13_9_14 HBY13_9_14.out).2.2.2.2.1,(HSF.out Y13_9_14 HBY13_9_14.out).2.2.2.2.2.1,(HSF.out Y13_9_14 HBY13_9_14.out).2.2.2.2.2.2.1,(HSF.out Y13_9_14 HBY13_9_14.out).2.2.2.2.2.2.2.1,(HSF.out Y13_9_14 HBY13_9_14.out).2.2.2.2.2.2.2.2.1,(HSF.out Y13_9_14 HBY13_9_14.out).2.2.2.2.2.2.2.2.2⟩ (fun hHeld => ?_)
      clear hK K
      refine mq ?_
      exact norm_ (by simp only [putAll,Act.put,List.setIfInBounds_toArray,List.set_cons_zero,List.set_cons_succ]) (hCont (T2,a,V.heap.size,Y13_9.heap.size) _ ⟨HBY13_9_14.out,HP2.out,HTY13_9_14.out,fun b hb => Nat.le_trans HBY13.out.size (HK2.out b hb),HN13Y13_9_14.out,HN14Y13_9_14.out,HBV.out.size,HBY13_9.out.size,fun (e : V.heap.size = Y13_9.heap.size) => by have h1:=blk_lt HN13Y13_9.out;omega,fun b hb (e : b = V.heap.size) => by have h1:=HK2.out b hb;have h2:=blk_lt HN13Y13.out;omega,fun b hb (e : b = Y13_9.heap.size) => by have h1:=HTY13_9.out.lt b hb;omega⟩)
     ·
      skip
      refine vq ?_
      have hb_:=below_alloc (Below.refl Y13.heap.size Y13) (.cells #[.int .i64 0,.int .i64 0,.int .i64 0,.int .i64 0] 75 (0,0))
      have HBY13_14:=Aside0.mk (below_then HBY13.out HBY13.out.size hb_)
      have HN14Y13_14:=Aside0.mk (heap_alloc_new Y13 (.cells #[.int .i64 0,.int .i64 0,.int .i64 0,.int .i64 0] 75 (0,0)))
      have HN13Y13_14:=Aside0.mk ((hb_.block _ (blk_lt HN13Y13.out)).trans HN13Y13.out)
      clear hb_ hHeld
      generalize hY_ : Y13.alloc _ = Y13_14 at HBY13_14 HN13Y13_14 HN14Y13_14 ⊢
      clear hY_
      refine hK.out _ _ ⟨(HSF.out Y13_14 HBY13_14.out).1,(HSF.out Y13_14 HBY13_14.out).2.1,(HSF.out Y13_14 HBY13_14.out).2.2.1,(HSF.out Y13_14 HBY13_14.out).2.2.2.1,(HSF.out Y13_14 HBY13_14.out).2.2.2.2.1,(HSF.out Y13_14 HBY13_14.out).2.2.2.2.2.1,(HSF.out Y13_14 HBY13_14.out).2.2.2.2.2.2.1,(HSF.out Y13_14 HBY13_14.out).2.2.2.2.2.2.2.1,(HSF.out Y13_14 HBY13_14.out).2.2.2.2.2.2.2.2.1,(HSF.out Y13_14 HBY13_14.out).2.2.2.2.2.2.2.2.2⟩ (fun hHeld => ?_)
      clear hK K
      refine mq ?_
      refine nq 9 (some 55) fun K hK => ?_
      have hq:=sapply_calls Y13_14 T tn r (1 + 5 * i) (HO4.out.tb.v.below HBY13_14.out) HGD.out HNN.out HTG.out HRG.out
      unfold tvV rqV at hq
      rw [HLV.out,HSV.out] at hq
      refine goes_ Try.func57 (by kernel_rfl) rfl #[.agg #[.int .i64 T.tm,.int .i64 T.nx,.slice la T.ls.length lc,.slice sa T.ss.length sc_],.int .i64 tn,.agg #[.int .i64 r.f0,.int .i64 r.f1,.int .i64 r.f2,.int .i64 r.f3,.string r.f4]] (by rfl) rfl rfl (by simp only [List.map_toArray,List.map_cons,List.map_nil];rfl) ?_
      with_reducible refine (hq).mono ?_
      rintro _ Y13_14_9 ⟨T2,a,rfl,hp2,ht2,hk2,hb_⟩
      refine ⟨_,rfl,?_⟩
      have HBY13_14_9:=Aside0.mk (below_then HBY13_14.out HBY13_14.out.size hb_)
      have HTY13_14_9:=Aside0.mk ht2
      have HP2:=Aside0.mk hp2
      have HK2:=Aside0.mk hk2
      have HN13Y13_14_9:=Aside0.mk ((hb_.block _ (blk_lt HN13Y13_14.out)).trans HN13Y13_14.out)
      have HN14Y13_14_9:=Aside0.mk ((hb_.block _ (blk_lt HN14Y13_14.out)).trans HN14Y13_14.out)
      clear hq hp2 ht2 hk2 hb_ hHeld
      refine hK.out _ _ ⟨(HSF.out Y13_14_9 HBY13_14_9.out).1,(HSF.out Y13_14_9 HBY13_14_9.out).2.1,(HSF.out Y13_14_9 HBY13_14_9.out).2.2.1,(HSF.out Y13_14_9 HBY13_14_9.out).2.2.2.1,(HSF.out Y13_14_9 HBY13_14_9.out).2.2.2.2.1,(HSF.out Y13_14_9 HBY13_14_9.out).2.2.2.2.2.1,(HSF.out Y13_14_9 HBY13_14_9.out).2.2.2.2.2.2.1,(HSF.out Y13_14_9 HBY13_14_9.out).2.2.2.2.2.2.2.1,(HSF.out Y13_14_9 HBY13_14_9.out).2.2.2.2.2.2.2.2.1,(HSF.out Y13_14_9 HBY13_14_9.out).2.2.2.2.2.2.2.2.2⟩ (fun hHeld => ?_)
      clear hK K
      refine mq ?_
      refine pq 10 (some 45) ?_
      refine pq 11 (some 56) ?_
      refine pq 12 (some 57) ?_
      exact norm_ (by simp only [putAll,Act.put,List.setIfInBounds_toArray,List.set_cons_zero,List.set_cons_succ]) (hCont (T2,a,V.heap.size,Y13.heap.size) _ ⟨HBY13_14_9.out,HP2.out,HTY13_14_9.out,fun b hb => Nat.le_trans HBY13_14.out.size (HK2.out b hb),HN13Y13_14_9.out,HN14Y13_14_9.out,HBV.out.size,HBY13.out.size,fun (e : V.heap.size = Y13.heap.size) => by have h1:=blk_lt HN13Y13.out;omega,fun b hb (e : b = V.heap.size) => by have h1:=HK2.out b hb;have h2:=blk_lt HN13Y13_14.out;omega,fun b hb (e : b = Y13.heap.size) => by have h1:=HK2.out b hb;have h2:=blk_lt HN14Y13_14.out;omega⟩)
    ·
     skip
     refine vq ?_
     have hb_:=below_alloc (Below.refl V.heap.size V) (.cells #[.int .i64 0,.int .i64 0,.int .i64 0,.int .i64 0] 75 (0,0))
     have HBY14:=Aside0.mk (below_then HBV.out HBV.out.size hb_)
     have HN14Y14:=Aside0.mk (heap_alloc_new V (.cells #[.int .i64 0,.int .i64 0,.int .i64 0,.int .i64 0] 75 (0,0)))
     clear hb_ hHeld
     generalize hY_ : V.alloc _ = Y14 at HBY14 HN14Y14 ⊢
     clear hY_
     refine hK.out _ _ ⟨(HSF.out Y14 HBY14.out).1,(HSF.out Y14 HBY14.out).2.1,(HSF.out Y14 HBY14.out).2.2.1,(HSF.out Y14 HBY14.out).2.2.2.1,(HSF.out Y14 HBY14.out).2.2.2.2.1,(HSF.out Y14 HBY14.out).2.2.2.2.2.1,(HSF.out Y14 HBY14.out).2.2.2.2.2.2.1,(HSF.out Y14 HBY14.out).2.2.2.2.2.2.2.1,(HSF.out Y14 HBY14.out).2.2.2.2.2.2.2.2.1,(HSF.out Y14 HBY14.out).2.2.2.2.2.2.2.2.2⟩ (fun hHeld => ?_)
     clear hK K
     refine mq ?_
     refine two_ (i:=9) (j:=13) (Ni:=some 55) (Nj:=some 12) #[true,true,true,true,true,true,true,true,true,true,false,false,false,false,true,false,false] #[true,true,true,true,true,true,true,true,true,false,false,false,false,true,true,false,false] rfl rfl rfl rfl (by kernel_rfl) (by decide) (by decide) (fun K hK => ?_) (fun K hK => ?_)
     ·
      skip
      have hq:=sapply_calls Y14 T tn r (1 + 5 * i) (HO4.out.tb.v.below HBY14.out) HGD.out HNN.out HTG.out HRG.out
      unfold tvV rqV at hq
      rw [HLV.out,HSV.out] at hq
      refine goes_ Try.func57 (by kernel_rfl) rfl #[.agg #[.int .i64 T.tm,.int .i64 T.nx,.slice la T.ls.length lc,.slice sa T.ss.length sc_],.int .i64 tn,.agg #[.int .i64 r.f0,.int .i64 r.f1,.int .i64 r.f2,.int .i64 r.f3,.string r.f4]] (by rfl) rfl rfl (by simp only [List.map_toArray,List.map_cons,List.map_nil];rfl) ?_
      with_reducible refine (hq).mono ?_
      rintro _ Y14_9 ⟨T2,a,rfl,hp2,ht2,hk2,hb_⟩
      refine ⟨_,rfl,?_⟩
      have HBY14_9:=Aside0.mk (below_then HBY14.out HBY14.out.size hb_)
      have HTY14_9:=Aside0.mk ht2
      have HP2:=Aside0.mk hp2
      have HK2:=Aside0.mk hk2
      have HN14Y14_9:=Aside0.mk ((hb_.block _ (blk_lt HN14Y14.out)).trans HN14Y14.out)
      clear hq hp2 ht2 hk2 hb_ hHeld
      refine hK.out _ _ ⟨(HSF.out Y14_9 HBY14_9.out).1,(HSF.out Y14_9 HBY14_9.out).2.1,(HSF.out Y14_9 HBY14_9.out).2.2.1,(HSF.out Y14_9 HBY14_9.out).2.2.2.1,(HSF.out Y14_9 HBY14_9.out).2.2.2.2.1,(HSF.out Y14_9 HBY14_9.out).2.2.2.2.2.1,(HSF.out Y14_9 HBY14_9.out).2.2.2.2.2.2.1,(HSF.out Y14_9 HBY14_9.out).2.2.2.2.2.2.2.1,(HSF.out Y14_9 HBY14_9.out).2.2.2.2.2.2.2.2.1,(HSF.out Y14_9 HBY14_9.out).2.2.2.2.2.2.2.2.2⟩ (fun hHeld => ?_)
      clear hK K
      refine mq ?_
      refine pq 10 (some 45) ?_
      refine pq 11 (some 56) ?_
      refine pq 12 (some 57) ?_
      refine nq 13 (some 12) fun K hK => ?_
      refine vq ?_
      have hb_:=below_alloc (Below.refl Y14_9.heap.size Y14_9) (.cells #[.int .i64 0,.int .i64 0,.slice none 0 0,.slice none 0 0] 31 (0,0))
      have HBY14_9_13:=Aside0.mk (below_then HBY14_9.out HBY14_9.out.size hb_)
      have HN13Y14_9_13:=Aside0.mk (heap_alloc_new Y14_9 (.cells #[.int .i64 0,.int .i64 0,.slice none 0 0,.slice none 0 0] 31 (0,0)))
      have HN14Y14_9_13:=Aside0.mk ((hb_.block _ (blk_lt HN14Y14_9.out)).trans HN14Y14_9.out)
      have HTY14_9_13:=Aside0.mk (HTY14_9.out.below hb_)
      clear hb_ hHeld
      generalize hY_ : Y14_9.alloc _ = Y14_9_13 at HBY14_9_13 HN13Y14_9_13 HN14Y14_9_13 HTY14_9_13 ⊢
      clear hY_
      refine hK.out _ _ ⟨(HSF.out Y14_9_13 HBY14_9_13.out).1,(HSF.out Y14_9_13 HBY14_9_13.out).2.1,(HSF.out Y14_9_13 HBY14_9_13.out).2.2.1,(HSF.out Y14_9_13 HBY14_9_13.out).2.2.2.1,(HSF.out Y14_9_13 HBY14_9_13.out).2.2.2.2.1,(HSF.out Y14_9_13 HBY14_9_13.out).2.2.2.2.2.1,(HSF.out Y14_9_13 HBY14_9_13.out).2.2.2.2.2.2.1,(HSF.out Y14_9_13 HBY14_9_13.out).2.2.2.2.2.2.2.1,(HSF.out Y14_9_13 HBY14_9_13.out).2.2.2.2.2.2.2.2.1,(HSF.out Y14_9_13 HBY14_9_13.out).2.2.2.2.2.2.2.2.2⟩ (fun hHeld => ?_)
      clear hK K
      refine mq ?_
      exact norm_ (by simp only [putAll,Act.put,List.setIfInBounds_toArray,List.set_cons_zero,List.set_cons_succ]) (hCont (T2,a,Y14_9.heap.size,V.heap.size) _ ⟨HBY14_9_13.out,HP2.out,HTY14_9_13.out,fun b hb => Nat.le_trans HBY14.out.size (HK2.out b hb),HN13Y14_9_13.out,HN14Y14_9_13.out,HBY14_9.out.size,HBV.out.size,fun (e : Y14_9.heap.size = V.heap.size) => by have h1:=blk_lt HN14Y14_9.out;omega,fun b hb (e : b = Y14_9.heap.size) => by have h1:=HTY14_9.out.lt b hb;omega,fun b hb (e : b = V.heap.size) => by have h1:=HK2.out b hb;have h2:=blk_lt HN14Y14.out;omega⟩)
     ·
      skip
      refine vq ?_
      have hb_:=below_alloc (Below.refl Y14.heap.size Y14) (.cells #[.int .i64 0,.int .i64 0,.slice none 0 0,.slice none 0 0] 31 (0,0))
      have HBY14_13:=Aside0.mk (below_then HBY14.out HBY14.out.size hb_)
      have HN13Y14_13:=Aside0.mk (heap_alloc_new Y14 (.cells #[.int .i64 0,.int .i64 0,.slice none 0 0,.slice none 0 0] 31 (0,0)))
      have HN14Y14_13:=Aside0.mk ((hb_.block _ (blk_lt HN14Y14.out)).trans HN14Y14.out)
      clear hb_ hHeld
      generalize hY_ : Y14.alloc _ = Y14_13 at HBY14_13 HN13Y14_13 HN14Y14_13 ⊢
      clear hY_
      refine hK.out _ _ ⟨(HSF.out Y14_13 HBY14_13.out).1,(HSF.out Y14_13 HBY14_13.out).2.1,(HSF.out Y14_13 HBY14_13.out).2.2.1,(HSF.out Y14_13 HBY14_13.out).2.2.2.1,(HSF.out Y14_13 HBY14_13.out).2.2.2.2.1,(HSF.out Y14_13 HBY14_13.out).2.2.2.2.2.1,(HSF.out Y14_13 HBY14_13.out).2.2.2.2.2.2.1,(HSF.out Y14_13 HBY14_13.out).2.2.2.2.2.2.2.1,(HSF.out Y14_13 HBY14_13.out).2.2.2.2.2.2.2.2.1,(HSF.out Y14_13 HBY14_13.out).2.2.2.2.2.2.2.2.2⟩ (fun hHeld => ?_)
      clear hK K
      refine mq ?_
      refine nq 9 (some 55) fun K hK => ?_
      have hq:=sapply_calls Y14_13 T tn r (1 + 5 * i) (HO4.out.tb.v.below HBY14_13.out) HGD.out HNN.out HTG.out HRG.out
      unfold tvV rqV at hq
      rw [HLV.out,HSV.out] at hq
      refine goes_ Try.func57 (by kernel_rfl) rfl #[.agg #[.int .i64 T.tm,.int .i64 T.nx,.slice la T.ls.length lc,.slice sa T.ss.length sc_],.int .i64 tn,.agg #[.int .i64 r.f0,.int .i64 r.f1,.int .i64 r.f2,.int .i64 r.f3,.string r.f4]] (by rfl) rfl rfl (by simp only [List.map_toArray,List.map_cons,List.map_nil];rfl) ?_
      with_reducible refine (hq).mono ?_
      rintro _ Y14_13_9 ⟨T2,a,rfl,hp2,ht2,hk2,hb_⟩
      refine ⟨_,rfl,?_⟩
      have HBY14_13_9:=Aside0.mk (below_then HBY14_13.out HBY14_13.out.size hb_)
      have HTY14_13_9:=Aside0.mk ht2
      have HP2:=Aside0.mk hp2
      have HK2:=Aside0.mk hk2
      have HN13Y14_13_9:=Aside0.mk ((hb_.block _ (blk_lt HN13Y14_13.out)).trans HN13Y14_13.out)
      have HN14Y14_13_9:=Aside0.mk ((hb_.block _ (blk_lt HN14Y14_13.out)).trans HN14Y14_13.out)
      clear hq hp2 ht2 hk2 hb_ hHeld
      refine hK.out _ _ ⟨(HSF.out Y14_13_9 HBY14_13_9.out).1,(HSF.out Y14_13_9 HBY14_13_9.out).2.1,(HSF.out Y14_13_9 HBY14_13_9.out).2.2.1,(HSF.out Y14_13_9 HBY14_13_9.out).2.2.2.1,(HSF.out Y14_13_9 HBY14_13_9.out).2.2.2.2.1,(HSF.out Y14_13_9 HBY14_13_9.out).2.2.2.2.2.1,(HSF.out Y14_13_9 HBY14_13_9.out).2.2.2.2.2.2.1,(HSF.out Y14_13_9 HBY14_13_9.out).2.2.2.2.2.2.2.1,(HSF.out Y14_13_9 HBY14_13_9.out).2.2.2.2.2.2.2.2.1,(HSF.out Y14_13_9 HBY14_13_9.out).2.2.2.2.2.2.2.2.2⟩ (fun hHeld => ?_)
      clear hK K
      refine mq ?_
      refine pq 10 (some 45) ?_
      refine pq 11 (some 56) ?_
      refine pq 12 (some 57) ?_
      exact norm_ (by simp only [putAll,Act.put,List.setIfInBounds_toArray,List.set_cons_zero,List.set_cons_succ]) (hCont (T2,a,Y14.heap.size,V.heap.size) _ ⟨HBY14_13_9.out,HP2.out,HTY14_13_9.out,fun b hb => Nat.le_trans HBY14_13.out.size (HK2.out b hb),HN13Y14_13_9.out,HN14Y14_13_9.out,HBY14.out.size,HBV.out.size,fun (e : Y14.heap.size = V.heap.size) => by have h1:=blk_lt HN14Y14.out;omega,fun b hb (e : b = Y14.heap.size) => by have h1:=HK2.out b hb;have h2:=blk_lt HN13Y14_13.out;omega,fun b hb (e : b = V.heap.size) => by have h1:=HK2.out b hb;have h2:=blk_lt HN14Y14_13.out;omega⟩)
   rintro ⟨T2,a,n10,n11⟩ V2 ⟨hb2,hp2,ht2,hk2,h10,h11,g10,g11,hne,k10,k11⟩
   have HB2:=Aside0.mk hb2
   have HP2:=Aside0.mk (show (Tv.pu T2,a) = reqX (Tv.pu T) tn r from hp2)
   have HT2:=Aside0.mk (show TV V2 T2 from ht2)
   have HK2:=Aside0.mk (show ∀ b,some b ∈ T2.blocks → V.heap.size ≤ b from hk2)
   have HN10:=Aside0.mk (show V2.heap[n10]? = some (tbO 0 0 (.slice none 0 0) (.slice none 0 0)) from h10)
   have HN11:=Aside0.mk (show V2.heap[n11]? = some (anO ⟨0,0,0,0⟩) from h11)
   have HG10:=Aside0.mk (show V.heap.size ≤ n10 from g10)
   have HG11:=Aside0.mk (show V.heap.size ≤ n11 from g11)
   have HNE:=Aside0.mk (show n10 ≠ n11 from hne)
   have HK10:=Aside0.mk (show ∀ b,some b ∈ T2.blocks → b ≠ n10 from k10)
   have HK11:=Aside0.mk (show ∀ b,some b ∈ T2.blocks → b ≠ n11 from k11)
   clear hb2 hp2 ht2 hk2 h10 h11 g10 g11 hne k10 k11
   have hHeld:=HSF.out V2 HB2.out
   refine mq ?_
   refine nq 15 none fun K hK => ?_
   obtain ⟨la2,lc2,hlv2⟩:=HT2.out.rl.slice
   obtain ⟨sa2,sc2,hsv2⟩:=HT2.out.rs.slice
   have HLV2:=Aside0.mk hlv2
   have HSV2:=Aside0.mk hsv2
   unfold tvV
   rw [hlv2,hsv2]
   clear hlv2 hsv2
   obtain ⟨n0,n1,n2,n3,m0,m1,m2,m3⟩:=box_facts HN10.out
   refine sq ?_
   clear n0 n1 n2 n3 m0 m1 m2 m3 hHeld
   have hf_ : Fr (fun x => x = n10) V2 (w4 V2 n10 (.int .i64 T2.tm) (.int .i64 T2.nx) (.slice la2 T2.ls.length lc2) (.slice sa2 T2.ss.length sc2)):=Fr.four (S:=fun x => x = n10) (Fr.refl _ V2) (.inl rfl) _ _ _ _
   have HN10b:=Aside0.mk (four_set HN10.out (.int .i64 T2.tm) (.int .i64 T2.nx) (.slice la2 T2.ls.length lc2) (.slice sa2 T2.ss.length sc2))
   have HN11b:=Aside0.mk (hf_.blk HN11.out (fun e => HNE.out e.symm))
   have HT3:=Aside0.mk (HT2.out.kept (fun b hb => hf_.block b (HT2.out.lt b hb) (fun e => HK10.out b hb e)))
   have HB3:=Aside0.mk (Fr.keep hf_ (fun x hx => by have:=HG10.out;omega) HB2.out)
   clear hf_
   obtain ⟨V3,hV3⟩ : ∃ V3,V3 = w4 V2 n10 (.int .i64 T2.tm) (.int .i64 T2.nx) (.slice la2 T2.ls.length lc2) (.slice sa2 T2.ss.length sc2):=⟨_,rfl⟩
   rw [← hV3] at HN11b HT3 HB3
   unfold w4 at hV3
   rw [← hV3] at HN10b ⊢
   clear hV3
   refine hK.out _ _ ⟨(HSF.out V3 HB3.out).1,(HSF.out V3 HB3.out).2.1,(HSF.out V3 HB3.out).2.2.1,(HSF.out V3 HB3.out).2.2.2.1,(HSF.out V3 HB3.out).2.2.2.2.1,(HSF.out V3 HB3.out).2.2.2.2.2.1,(HSF.out V3 HB3.out).2.2.2.2.2.2.1,(HSF.out V3 HB3.out).2.2.2.2.2.2.2.1,(HSF.out V3 HB3.out).2.2.2.2.2.2.2.2.1,(HSF.out V3 HB3.out).2.2.2.2.2.2.2.2.2⟩ (fun hHeld => ?_)
   clear hK K
   refine lq 16 none fun K hK => ?_
   unfold anV
   obtain ⟨n0,n1,n2,n3,m0,m1,m2,m3⟩:=box_facts HN11b.out
   refine sq ?_
   clear n0 n1 n2 n3 m0 m1 m2 m3 hHeld
   refine hK.out _ _ ?_
   clear hK K
   refine done_ (by kernel_rfl) ?_
   (try clear hHeld)
   have hf4 : Fr (fun x => x = n11) V3 (w4 V3 n11 (.int .i64 a.f0) (.int .i64 a.f1) (.int .i64 a.f2) (.int .i64 a.f3)):=Fr.four (S:=fun x => x = n11) (Fr.refl _ V3) (.inl rfl) _ _ _ _
   have HA4:=Aside0.mk (show (w4 V3 n11 (.int .i64 a.f0) (.int .i64 a.f1) (.int .i64 a.f2) (.int .i64 a.f3)).heap[n11]? = some (anO a) from four_set HN11b.out _ _ _ _)
   have HN4:=Aside0.mk (hf4.blk HN10b.out HNE.out)
   have HT4:=Aside0.mk (HT3.out.kept (fun b hb => hf4.block b (HT3.out.lt b hb) (fun e => HK11.out b hb e)))
   have HB4:=Aside0.mk (Fr.keep hf4 (fun x hx => by have:=HG11.out;omega) HB3.out)
   clear hf4
   obtain ⟨V4,hV4⟩ : ∃ V4,V4 = w4 V3 n11 (.int .i64 a.f0) (.int .i64 a.f1) (.int .i64 a.f2) (.int .i64 a.f3):=⟨_,rfl⟩
   rw [← hV4] at HA4 HN4 HT4 HB4
   unfold w4 at hV4
   rw [← hV4]
   clear hV4
   have HO5:=Aside0.mk (HO4.out.below HB4.out)
   have HO6:=Aside0.mk (show O4 w V4 g n10 T T2 _ gs oa from ⟨⟨⟨HT4.out,by have h:=HN4.out;unfold Tv.box;rw [HLV2.out,HSV2.out];exact h,fun o ho e => by subst e;exact HK10.out n10 ho rfl⟩,HO5.out.row,fun b hb => by
    rcases hb with hb|hb
    ·
     have h1:=HK2.out b hb
     have h2:=HO4.out.be.size
     omega
    ·
     exact HO4.out.ow b (.inr hb),fun e => by have h1:=HO4.out.row.lt n10 e;have h2:=HG10.out;omega,fun x hx b hb hb' => by subst hb;have h1:=HK2.out b hx;have h2:=HO4.out.row.lt b hb';omega,HO5.out.be,by have h1:=HO4.out.be.size;have h2:=HG10.out;omega⟩,HO5.out.tb.bx,HO5.out.og⟩)
   have HKG:=Aside0.mk (show ∀ b,some b ∈ T2.blocks → b ≠ g from fun b hb => by have h1:=HK2.out b hb;have h2:=HO4.out.tb.lt;omega)
   have HGWg:=Aside0.mk (show w.heap.size ≤ g from HO4.out.gw)
   have HG2 : Aside0 (TGood (1 + 5 * (i : Int) + 5) (Tv.pu T2)):=⟨by have h:=good_req HGD.out HTG.out HRG.out;rw [← HP2.out] at h;exact h⟩
   have hn2 : 1 ≤ T2.nx ∧ T2.nx ≤ 1 + 5 * (i : Int) + 5:=HG2.out.nx
   have hn1 : 1 ≤ T.nx ∧ T.nx ≤ 1 + 5 * (i : Int):=HGD.out.nx
   have hl4 : T2.ls.length ≤ 4:=by have h : (T2.ls.map EL.x).length ≤ 4:=HG2.out.l4;rwa [List.length_map] at h
   obtain ⟨n,hnn⟩ : ∃ n : Nat,n = (T2.nx - T.nx).toNat:=⟨_,rfl⟩
   have HNN:=Aside0.mk hnn
   have hnb : n ≤ 1010 ∧ (T.nx + (n : Int) = T2.nx ∨ (n = 0 ∧ T2.nx ≤ T.nx)):=by omega
   clear hnn HO HO4 HO5 HT3 HB3 HT4 HB4 HN4 HN10 HN10b HN11 HN11b HA4 HK10 HK11 HNE HT2 HB2 HBV HSF
   have y1 : V4.cell? ⟨g,1,none⟩ = some (.int .i64 T.nx):=(blk_cell (show V4.heap[g]? = some (tbO T.tm T.nx T.vl T.vs) from HO6.out.bg) 1).trans rfl
   go_wp2_with fail
   clear y1
   go_loopg [14,9] n (fun gh v14 v9 wx => ∃ (j : Nat) (oa : Option Nat),v14 = .int .i64 (T.nx + (j : Int)) ∧ j ≤ n ∧ Aside0 (j + gh = n) ∧ Aside0 (O4 w wx g n10 T T2 v9 (gs ++ gtoks T.nx (T2.ls.map EL.x) j) oa))
   case atStart => exact ⟨0,_,by simp,Nat.zero_le _,⟨by omega⟩,⟨by simpa [gtoks] using HO6.out⟩⟩
   case round =>
    clear HO6
    obtain ⟨wm,rfl⟩ : ∃ wm : World,wm = wr:=⟨_,rfl⟩
    obtain ⟨gm,rfl⟩ : ∃ gm : Nat,gm = gk:=⟨_,rfl⟩
    obtain ⟨j,ob,rfl,hj,HMj,HOj⟩:=hrel
    obtain ⟨-,y1,-,-,-,-,-,-⟩:=HOj.out.o.tb.cells
    by_cases hjn : j < n
    ·
     have p2 : decide (T.nx + (j : Int) < T2.nx) = true:=decide_eq_true (by omega)
     obtain ⟨tk,htk⟩ : ∃ tk,tk = T.nx + (j : Int):=⟨_,rfl⟩
     have htkb : 0 ≤ tk ∧ tk ≤ 1100000:=by omega
     have HTK:=Aside0.mk htk
     rw [← htk] at p2 ⊢
     clear htk
     have HGL:=Aside0.mk (show (gs ++ gtoks T.nx (T2.ls.map EL.x) j).length ≤ 850000 by
      have h1:=gtoks_len T.nx (T2.ls.map EL.x) (by rw [List.length_map];exact hl4) j
      have h2:=HLA.out
      rw [List.length_append]
      omega)
     obtain ⟨g1,hg1⟩ : ∃ g1,g1 = gs ++ gtoks T.nx (T2.ls.map EL.x) j:=⟨_,rfl⟩
     rw [← hg1] at HOj HGL
     have HG1:=Aside0.mk hg1
     clear hg1
     go_wp2_with fail
     clear y1
     go_loopg [15,9] T2.ls.length (fun gh v15 v9 wx => ∃ (q : Nat) (oa : Option Nat),v15 = .int .i64 q ∧ q ≤ T2.ls.length ∧ Aside0 (q + gh = T2.ls.length) ∧ Aside0 (O4 w wx g n10 T T2 v9 (g1 ++ gpick tk ((T2.ls.map EL.x).take q)) oa))
     case atStart => exact ⟨0,_,rfl,Nat.zero_le _,⟨by omega⟩,⟨by simpa [gpick] using HOj.out⟩⟩
     case round =>
      clear HOj
      obtain ⟨wi,rfl⟩ : ∃ wi : World,wi = wr:=⟨_,rfl⟩
      obtain ⟨q,oc,rfl,hq,HMq,HOq⟩:=hrel
      obtain ⟨-,-,y2,-,-,-,-,-⟩:=HOq.out.o.tb.cells
      rw [HLV2.out] at y2
      by_cases hql : q < T2.ls.length
      ·
       have hls : T2.ls = T2.ls.take q ++ T2.ls[q] :: T2.ls.drop (q + 1):=by rw [← List.drop_eq_getElem_cons hql,List.take_append_drop]
       obtain ⟨b,o,c,hvl,hat⟩:=HOq.out.o.tb.v.at_ hls
       have hpl : (T2.ls.take q).length = q:=by rw [List.length_take];omega
       rw [hpl] at hat
       obtain ⟨rfl,rfl⟩ : la2 = some ⟨b,o,none⟩ ∧ lc2 = c:=by
        have h:=HLV2.out
        rw [hvl] at h
        injection h with h1 _ h3
        exact ⟨h1.symm,h3.symm⟩
       obtain ⟨x0,x1,x2,x3,x4,-,-,-,-,-⟩:=hat.cells HOq.out.o.tb.v
       have HPK:=Aside0.mk (gpick_take tk (T2.ls.map EL.x) q (by rw [List.length_map];exact hql))
       have HGQ:=Aside0.mk (show (g1 ++ gpick tk ((T2.ls.map EL.x).take q)).length ≤ 900000 by
        have h1:=gpick_len tk ((T2.ls.map EL.x).take q)
        have h2 : ((T2.ls.map EL.x).take q).length ≤ 4:=Nat.le_trans (List.length_take_le _ _) (by omega)
        have h3:=HGL.out
        rw [List.length_append]
        omega)
       have HHG:=Aside0.mk (show -1 ≤ T2.ls[q].x.f2 from (HG2.out.gl _ (List.mem_map_of_mem (List.getElem_mem hql))).2.1)
       rw [List.getElem_map] at HPK
       obtain ⟨x,hx⟩ : ∃ x,x = T2.ls[q]:=⟨_,rfl⟩
       rw [← hx] at x0 x1 x2 x3 x4 HPK HHG
       obtain ⟨A4,c4,hv4,-,-⟩:=(HOq.out.o.tb.v.rw x (by rw [hx];exact List.getElem_mem hql)).reads
       rw [hv4] at x4
       obtain ⟨⟨nm,tok,hol,exp,ws⟩,xv,xo⟩:=x
       simp only at x0 x1 x2 x3 x4 HPK HHG
       have p0 : ((q : Int) < (T2.ls.length : Int)) = True:=eq_true (by omega)
       have p1 : (0 ≤ (q : Int)) = True:=eq_true (by omega)
       have p3 : decide ((q : Int) < (T2.ls.length : Int)) = true:=decide_eq_true (by omega)
       obtain ⟨g2,hg2⟩ : ∃ g2,g2 = g1 ++ gpick tk ((T2.ls.map EL.x).take q):=⟨_,rfl⟩
       rw [← hg2] at HOq HGQ
       have HG2e:=Aside0.mk hg2
       clear hls hvl hat hpl hx hv4 hg2
       go_upto_region 19 with fail
       clear x0 x1 x2 x3 x4 y2
       have hb5:=below_alloc (Below.refl wi.heap.size wi) (.cells #[.string nm,.int .i64 tok,.int .i64 hol,.int .i64 exp,.slice A4 ws.length c4] 70 (0,0))
       have hg5:=heap_alloc_new wi (.cells #[.string nm,.int .i64 tok,.int .i64 hol,.int .i64 exp,.slice A4 ws.length c4] 70 (0,0))
       have HO8a:=Aside0.mk (HOq.out.below hb5)
       generalize wi.alloc (.cells #[.string nm,.int .i64 tok,.int .i64 hol,.int .i64 exp,.slice A4 ws.length c4] 70 (0,0)) = W6 at hb5 hg5 HO8a ⊢
       generalize wi.heap.size = nl at hg5 ⊢
       have u0 : W6.cell? ⟨nl,0,none⟩ = some (.string nm):=(blk_cell hg5 0).trans rfl
       have u1 : W6.cell? ⟨nl,1,none⟩ = some (.int .i64 tok):=(blk_cell hg5 1).trans rfl
       have u2 : W6.cell? ⟨nl,2,none⟩ = some (.int .i64 hol):=(blk_cell hg5 2).trans rfl
       have u3 : W6.cell? ⟨nl,3,none⟩ = some (.int .i64 exp):=(blk_cell hg5 3).trans rfl
       clear hb5 hg5
       by_cases hpk : tok = tk ∧ hol ≠ -1
       ·
        obtain ⟨e1,e2⟩:=hpk
        subst e1
        have m0 : (tok == tok) = true:=by simp
        have m1 : decide (0 ≤ hol) = true:=decide_eq_true (by have:=HHG.out;omega)
        have hgo : gone tok ⟨nm,tok,hol,exp,ws⟩ = [⟨nm,hol,tok,exp⟩]:=if_pos ⟨rfl,e2⟩
        obtain ⟨v5,W7,o7,hrun,hrow,hob,hfr⟩:=appG W6 _ g2 ⟨nm,hol,tok,exp⟩ oc HO8a.out.o.row HGQ.out
        have HO8:=Aside0.mk ((HO8a.out.below (below_alloc (Below.refl _ W6) _)).app hrow hob hfr)
        have HGO:=Aside0.mk hgo
        clear hrow hob hfr hgo
        go_wp2_with (at_builtin;refine Lib.wpList_append_run _ rfl _ _ _ _ rfl _ _ rfl rfl _ _ hrun ?_)
        go_roundg (gk - 1)
        case measure => have:=HMq.out;omega
        case rel =>
         refine ⟨q + 1,o7,by go_num,by omega,⟨by have:=HMq.out;omega⟩,⟨?_⟩⟩
         rw [HPK.out,HGO.out,← List.append_assoc,← HG2e.out]
         exact HO8.out
       ·
        have hgo : gone tk ⟨nm,tok,hol,exp,ws⟩ = []:=if_neg hpk
        have HGO:=Aside0.mk hgo
        have he2 : g2 = g1 ++ gpick tk ((T2.ls.map EL.x).take (q + 1)):=by rw [HPK.out,HGO.out,List.append_nil];exact HG2e.out
        have hfin:=HO8a.out
        rw [he2] at hfin
        have HFIN:=Aside0.mk hfin
        clear hgo hfin he2
        by_cases e1 : tok = tk
        ·
         have m0 : (tok == tk) = true:=by simpa using e1
         have e2 : hol = -1:=by
          by_cases e2 : hol = -1
          ·
           exact e2
          ·
           exact absurd ⟨e1,e2⟩ hpk
         have m1 : decide (0 ≤ hol) = false:=decide_eq_false (by omega)
         clear hpk e1 e2
         go_wp2_with fail
         go_roundg (gk - 1)
         case measure => have:=HMq.out;omega
         case rel => exact ⟨q + 1,oc,by go_num,by omega,⟨by have:=HMq.out;omega⟩,HFIN⟩
        ·
         have m0 : (tok == tk) = false:=by simpa using e1
         clear hpk e1
         go_wp2_with fail
         go_roundg (gk - 1)
         case measure => have:=HMq.out;omega
         case rel => exact ⟨q + 1,oc,by go_num,by omega,⟨by have:=HMq.out;omega⟩,HFIN⟩
      ·
       obtain rfl : q = T2.ls.length:=by omega
       have p3 : decide ((T2.ls.length : Int) < (T2.ls.length : Int)) = false:=decide_eq_false (by omega)
       go_wp2_with fail
       go_roundg (gm - 1)
       case measure => have:=HMj.out;omega
       case rel =>
        refine ⟨j + 1,oc,?_,by omega,⟨by have:=HMj.out;omega⟩,⟨?_⟩⟩
        ·
         rw [HTK.out]
         congr 1
         omega
        ·
         have h:=HOq.out
         rw [List.take_of_length_le (by rw [List.length_map];exact Nat.le_refl _),HG1.out,List.append_assoc,HTK.out,← gtoks_succ] at h
         exact h
    ·
     obtain rfl : j = n:=by omega
     have p2 : decide (T.nx + (j : Int) < T2.nx) = false:=decide_eq_false (by omega)
     obtain ⟨-,y1,-,-,-,-,-,-⟩:=HOj.out.o.tb.cells
     obtain ⟨n0,-,n2,n3,-,-,-,-⟩:=HOj.out.o.tb.cells
     rw [HLV2.out] at n2
     rw [HSV2.out] at n3
     obtain ⟨a0,a1,a2,a3,f0,f1,f2,f3⟩:=box_facts (show wm.heap[g]? = some (tbO T.tm T.nx T.vl T.vs) from HOj.out.bg)
     go_upto_region 10 with fail
     clear n0 n2 n3 y1 a0 a1 a2 a3 f0 f1 f2 f3
     change Code.wp _ _ _ _ (w4 wm g (.int .i64 T2.tm) (.int .i64 T2.nx) (.slice la2 T2.ls.length lc2) (.slice sa2 T2.ss.length sc2))
     rw [← HLV2.out,← HSV2.out]
     have HO9:=Aside0.mk (HOj.out.back HKG.out HGWg.out)
     generalize w4 wm g (.int .i64 T2.tm) (.int .i64 T2.nx) T2.vl T2.vs = W9 at HO9 ⊢
     go_wp2_with fail
     go_roundg (go - 1)
     case measure => have:=HMM.out;omega
     case rel =>
      refine ⟨i + 1,T2,_,ob,by go_num,by omega,⟨by have:=HMM.out;omega⟩,⟨?_⟩,⟨?_⟩,⟨?_⟩,HO9⟩
      ·
       have h1:=gtoks_len T.nx (T2.ls.map EL.x) (by rw [List.length_map];exact hl4) j
       have h2:=HLA.out
       rw [List.length_append]
       omega
      ·
       rw [HZT.out,grS_snoc,← HRS.out]
       have e : (reqX (Tv.pu T) tn r).1 = Tv.pu T2:=by rw [← HP2.out]
       unfold gstep
       simp only [e]
       rw [HNN.out]
       rfl
      ·
       rw [show 1 + 5 * ((i + 1 : Nat) : Int) = 1 + 5 * (i : Int) + 5 by omega]
       exact HG2.out
  ·
   obtain rfl : i = l.length:=by omega
   have q2 : decide ((l.length : Int) < (l.length : Int)) = false:=decide_eq_false (by omega)
   have HFIN:=Aside0.mk (show gs = (grS (newT,[]) (l.zip ts)).2 by
    have h:=HRS.out
    rw [List.take_of_length_le (by rw [List.length_zip];have:=HLT.out;omega)] at h
    rw [← h])
   go_wp2_with fail
   go_ret2
   rw [HG0.out]
   refine ⟨_,oa,rfl,?_,fun b hb => HO.out.ow b (.inr hb),HO.out.be⟩
   rw [← HFIN.out]
   exact HO.out.row
end Go.Proofs.Ytjkanhjapddhnaa.GrS
