/- The specification's l05Apply, walked by hand (written by mksapp.py). No condition. -/
-- squeezed
import Derived.Test.YtjkanhjapddhnaaSDo
import Derived.Test.YtjkanhjapddhnaaGr
import Derived.Test.YtjkanhjapddhnaaSExp
namespace Go.Proofs.Ytjkanhjapddhnaa.SApp
open Go.RowKit Go.Lib Go.Proofs.YtjkanhjapddhnaaV.PrintWords Go.Proofs.YtjkanhjapddhnaaV.PrintMore Go.Proofs.YtjkanhjapddhnaaV.PrintLast Go.Proofs.Ytjkanhjapddhnaa.Sq Go.Proofs.Ytjkanhjapddhnaa.Own Go.Proofs.Ytjkanhjapddhnaa.MarkT Go.Proofs.Ytjkanhjapddhnaa.Tb Go.Proofs.Ytjkanhjapddhnaa.Gr Go.Proofs.Ytjkanhjapddhnaa.Gon Go.Proofs.Ytjkanhjapddhnaa.Find Go.Proofs.Ytjkanhjapddhnaa.Pos Go.Proofs.Ytjkanhjapddhnaa.Pu Go.Proofs.Ytjkanhjapddhnaa.Ctx Go.Proofs.Ytjkanhjapddhnaa.InsR Go.Proofs.Ytjkanhjapddhnaa.AppN Go.Proofs.Ytjkanhjapddhnaa.Inv Go.Proofs.Ytjkanhjapddhnaa.Sns Go.Proofs.Ytjkanhjapddhnaa.Run Go.Proofs.Ytjkanhjapddhnaa.SGr Go.Proofs.Ytjkanhjapddhnaa.SOwn Go.Proofs.Ytjkanhjapddhnaa.SLib Go.Proofs.Ytjkanhjapddhnaa.SExp Go.Proofs.Ytjkanhjapddhnaa.SDo Go.Proofs.Ytjkanhjapddhnaa.PFnExactRunRequests
set_option linter.unusedVariables false
set_option linter.unusedSimpArgs false
set_option maxHeartbeats 20000000
set_option maxRecDepth 100000
theorem results_two {P : Program} {fn : Func} {p q : Tmp} {ty ty2 : TypeId} (h : fn.results = #[.cell p ty,.cell q ty2]) (tmps : Array Value) (w : World) (g : Nat) (t : TypeId) (cs : Array Value) (fr : Nat × Nat) (d : TypeDesc) (g2 : Nat) (t2 : TypeId) (cs2 : Array Value) (fr2 : Nat × Nat) (d2 : TypeDesc)
  (hp : tmps.getD p undef = .pointer (some ⟨g,0,none⟩)) (hp2 : tmps.getD q undef = .pointer (some ⟨g2,0,none⟩)) (hg : w.heap[g]? = some (.cells cs t fr)) (hg2 : w.heap[g2]? = some (.cells cs2 t2 fr2))
  (hu : P.underlying ty = some d) (hd : (match d with|.struct _|.array _ _ => true|_ => false) = true) (hi : (P.info? ty).map (·.size) = some cs.size)
  (hu2 : P.underlying ty2 = some d2) (hd2 : (match d2 with|.struct _|.array _ _ => true|_ => false) = true) (hi2 : (P.info? ty2).map (·.size) = some cs2.size) :
  (results fn tmps).run P w = .ok (.tuple #[.agg cs,.agg cs2]) w:=by
 have hp' : tmps[p]?.getD undef = .pointer (some ⟨g,0,none⟩):=by simpa using hp
 have hp2' : tmps[q]?.getD undef = .pointer (some ⟨g2,0,none⟩):=by simpa using hp2
 simp [results,h,hp',hp2',asAddr,run_loadVar_row w g t ty cs fr d hg hu hd hi,run_loadVar_row w g2 t2 ty2 cs2 fr2 d2 hg2 hu2 hd2 hi2]
structure P2 (w wx : World) (g : Nat) (T : Tv) (r : RQ) : Prop where
 tb : TB wx g T
 ow : ∀ b,some b ∈ T.blocks → w.heap.size + 3 < b
 gw : w.heap.size + 3 < g
 rq : wx.heap[w.heap.size + 1]? = some (rqO r)
 rt : wx.heap[w.heap.size + 2]? = some (tbO 0 0 (.slice none 0 0) (.slice none 0 0))
 ra : wx.heap[w.heap.size + 3]? = some (anO ⟨0,0,0,0⟩)
 be : Below w.heap.size w wx
theorem P2.below {w wx wy : World} {g : Nat} {T : Tv} {r : RQ} (h : P2 w wx g T r) (hb : Below wx.heap.size wx wy) : P2 w wy g T r :=
 ⟨h.tb.below hb,h.ow,h.gw,(hb.block _ (blk_lt h.rq)).trans h.rq,(hb.block _ (blk_lt h.rt)).trans h.rt,(hb.block _ (blk_lt h.ra)).trans h.ra,below_then h.be h.be.size hb⟩
theorem P2.step {w wx wy : World} {g : Nat} {T T2 : Tv} {r : RQ} (h : P2 w wx g T r) (hs : St g wx T wy T2) : P2 w wy g T2 r:=by
 have hS : ∀ x,(x = g ∨ some x ∈ T.blocks) → w.heap.size + 3 < x:=fun x hx => hx.elim (fun e => e ▸ h.gw) (fun hm => h.ow x hm)
 have hn : ∀ k,k ≤ w.heap.size + 3 → ¬ (k = g ∨ some k ∈ T.blocks):=fun k hk hh => by have:=hS k hh;omega
 have hf:=hs.fr
 refine ⟨hs.tb,fun b hb => ?_,h.gw,hf.blk h.rq (hn _ (by omega)),hf.blk h.rt (hn _ (by omega)),hf.blk h.ra (hn _ (by omega)),⟨hf.os.trans h.be.os,hf.tape.trans h.be.tape,hf.output.trans h.be.output,Nat.le_trans h.be.size hf.size,fun k hk => (hf.block k (Nat.lt_of_lt_of_le hk h.be.size) (hn k (by omega))).trans (h.be.block k hk)⟩⟩
 rcases hs.bl b hb with h1|h1
 ·
  exact h.ow b h1
 ·
  have:=blk_lt h.ra;omega
theorem P2.rqs {w wx : World} {g : Nat} {T : Tv} {r : RQ} (h : P2 w wx g T r) :
  wx.cell? ⟨w.heap.size + 1,0,none⟩ = some (.int .i64 r.f0) ∧ wx.cell? ⟨w.heap.size + 1,1,none⟩ = some (.int .i64 r.f1) ∧ wx.cell? ⟨w.heap.size + 1,2,none⟩ = some (.int .i64 r.f2) ∧ wx.cell? ⟨w.heap.size + 1,3,none⟩ = some (.int .i64 r.f3) ∧ wx.cell? ⟨w.heap.size + 1,4,none⟩ = some (.string r.f4) :=
 ⟨(blk_cell h.rq 0).trans rfl,(blk_cell h.rq 1).trans rfl,(blk_cell h.rq 2).trans rfl,(blk_cell h.rq 3).trans rfl,(blk_cell h.rq 4).trans rfl⟩
def w4 (w : World) (n : Nat) (v0 v1 v2 v3 : Value) : World:=(((w.setCell ⟨n,0,none⟩ v0).setCell ⟨n,1,none⟩ v1).setCell ⟨n,2,none⟩ v2).setCell ⟨n,3,none⟩ v3
theorem Fr.keep {S : Nat → Prop} {w wx wy : World} (hf : Fr S wx wy) (hS : ∀ x,S x → w.heap.size ≤ x) (hb : Below w.heap.size w wx) : Below w.heap.size w wy :=
 ⟨hf.os.trans hb.os,hf.tape.trans hb.tape,hf.output.trans hb.output,Nat.le_trans hb.size hf.size,fun k hk => (hf.block k (Nat.lt_of_lt_of_le hk hb.size) (fun hh => by have:=hS k hh;omega)).trans (hb.block k hk)⟩
structure Q2 (w wx : World) (g : Nat) (T : Tv) : Prop where
 tb : TB wx g T
 ow : ∀ b,some b ∈ T.blocks → w.heap.size + 3 < b
 gw : w.heap.size + 3 < g
 rt : wx.heap[w.heap.size + 2]? = some (tbO T.tm T.nx T.vl T.vs)
 ra : wx.heap[w.heap.size + 3]? = some (anO ⟨0,0,0,0⟩)
 be : Below w.heap.size w wx
theorem P2.fr {w wx : World} {g : Nat} {T : Tv} {r : RQ} (h : P2 w wx g T r) : Fr (fun x => x = w.heap.size + 2) wx (w4 wx (w.heap.size + 2) (.int .i64 T.tm) (.int .i64 T.nx) T.vl T.vs):=Fr.four (S:=fun x => x = w.heap.size + 2) (Fr.refl _ wx) (.inl (rfl : w.heap.size + 2 = w.heap.size + 2)) _ _ _ _
theorem P2.setT {w wx : World} {g : Nat} {T : Tv} {r : RQ} (h : P2 w wx g T r) : Q2 w (w4 wx (w.heap.size + 2) (.int .i64 T.tm) (.int .i64 T.nx) T.vl T.vs) g T:=by
 have hf:=h.fr
 have hg:=h.gw
 exact ⟨⟨h.tb.v.kept (fun b hb => hf.block b (h.tb.v.lt b hb) (fun e => by have:=h.ow b hb;omega)),hf.blk h.tb.bx (fun e => by omega),h.tb.ng⟩,h.ow,h.gw,four_set h.rt _ _ _ _,hf.blk h.ra (fun e => by omega),Fr.keep hf (fun x hx => by omega) h.be⟩
theorem Q2.setA {w wx : World} {g : Nat} {T : Tv} (h : Q2 w wx g T) (a : AN) :
  TV (w4 wx (w.heap.size + 3) (.int .i64 a.f0) (.int .i64 a.f1) (.int .i64 a.f2) (.int .i64 a.f3)) T ∧ (w4 wx (w.heap.size + 3) (.int .i64 a.f0) (.int .i64 a.f1) (.int .i64 a.f2) (.int .i64 a.f3)).heap[w.heap.size + 2]? = some (tbO T.tm T.nx T.vl T.vs) ∧ (w4 wx (w.heap.size + 3) (.int .i64 a.f0) (.int .i64 a.f1) (.int .i64 a.f2) (.int .i64 a.f3)).heap[w.heap.size + 3]? = some (anO a) ∧
  Below w.heap.size w (w4 wx (w.heap.size + 3) (.int .i64 a.f0) (.int .i64 a.f1) (.int .i64 a.f2) (.int .i64 a.f3)):=by
 have hf : Fr (fun x => x = w.heap.size + 3) wx (w4 wx (w.heap.size + 3) (.int .i64 a.f0) (.int .i64 a.f1) (.int .i64 a.f2) (.int .i64 a.f3)):=Fr.four (S:=fun x => x = w.heap.size + 3) (Fr.refl _ wx) (.inl rfl) _ _ _ _
 exact ⟨h.tb.v.kept (fun b hb => hf.block b (h.tb.v.lt b hb) (fun e => by have:=h.ow b hb;omega)),hf.blk h.rt (fun e => by omega),four_set h.ra _ _ _ _,Fr.keep hf (fun x hx => by omega) h.be⟩
def Out (w : World) (T : Tv) (now : Int) (r : RQ) (e : Ending) (w' : World) : Prop:=∃ T' a,e = .returned (.tuple #[tvV T',anV a]) ∧ (Tv.pu T',a) = reqX (Tv.pu T) now r ∧ TV w' T' ∧ (∀ b,some b ∈ T'.blocks → w.heap.size ≤ b) ∧ Below w.heap.size w w'
theorem Q2.out {w wx : World} {g : Nat} {T T' : Tv} {now : Int} {r : RQ} (h : Q2 w wx g T') (a : AN) (hq : (Tv.pu T',a) = reqX (Tv.pu T) now r) {e : Ending} (he : e = .returned (.tuple #[tvV T',anV a])) : Out w T now r e (w4 wx (w.heap.size + 3) (.int .i64 a.f0) (.int .i64 a.f1) (.int .i64 a.f2) (.int .i64 a.f3)) :=
 ⟨T',a,he,hq,(h.setA a).1,fun b hb => by have:=h.ow b hb;omega,(h.setA a).2.2.2⟩
theorem sapply_calls (w : World) (T : Tv) (now : Int) (r : RQ) (N : Int) (hT : TV w T) (hG : TGood N (Tv.pu T)) (hN : N ≤ 800000) (hn : 0 ≤ now ∧ now ≤ 1000000000) (hr : RqGood r) :
  Calls Try.prog 57 #[tvV T,.int .i64 now,rqV r] w (Out w T now r):=by
 have HT:=Aside0.mk hT
 have HG:=Aside0.mk hG
 have HN:=Aside0.mk hN
 have HNW:=Aside0.mk hn
 have HR:=Aside0.mk hr
 obtain ⟨la,lc,hlv⟩:=hT.rl.slice
 obtain ⟨sa0,sc0,hsv⟩:=hT.rs.slice
 have HLV0:=Aside0.mk hlv
 have HSV0:=Aside0.mk hsv
 have hs1 : (w.alloc T.box).heap.size = w.heap.size + 1:=by show (w.heap.push _).size = _;simp
 have hs2 : ((w.alloc T.box).alloc (rqO r)).heap.size = w.heap.size + 2:=by show ((w.alloc T.box).heap.push _).size = _;simp [hs1]
 have hs3 : (((w.alloc T.box).alloc (rqO r)).alloc (tbO 0 0 (.slice none 0 0) (.slice none 0 0))).heap.size = w.heap.size + 3:=by show (((w.alloc T.box).alloc (rqO r)).heap.push _).size = _;simp [hs2]
 have hb1:=below_alloc (below_alloc (below_alloc (below_alloc (Below.refl w.heap.size w) T.box) (rqO r)) (tbO 0 0 (.slice none 0 0) (.slice none 0 0))) (anO ⟨0,0,0,0⟩)
 have hg0 : ((((w.alloc T.box).alloc (rqO r)).alloc (tbO 0 0 (.slice none 0 0) (.slice none 0 0))).alloc (anO ⟨0,0,0,0⟩)).heap[w.heap.size]? = some T.box:=(heap_alloc_old _ _ (by omega)).trans ((heap_alloc_old _ _ (by omega)).trans ((heap_alloc_old _ _ (by omega)).trans (heap_alloc_new _ _)))
 have hg1 : ((((w.alloc T.box).alloc (rqO r)).alloc (tbO 0 0 (.slice none 0 0) (.slice none 0 0))).alloc (anO ⟨0,0,0,0⟩)).heap[w.heap.size + 1]? = some (rqO r):=(heap_alloc_old _ _ (by omega)).trans ((heap_alloc_old _ _ (by omega)).trans (by have h:=heap_alloc_new (w.alloc T.box) (rqO r);rw [hs1] at h;exact h))
 have hg2 : ((((w.alloc T.box).alloc (rqO r)).alloc (tbO 0 0 (.slice none 0 0) (.slice none 0 0))).alloc (anO ⟨0,0,0,0⟩)).heap[w.heap.size + 2]? = some (tbO 0 0 (.slice none 0 0) (.slice none 0 0)):=(heap_alloc_old _ _ (by omega)).trans (by have h:=heap_alloc_new ((w.alloc T.box).alloc (rqO r)) (tbO 0 0 (.slice none 0 0) (.slice none 0 0));rw [hs2] at h;exact h)
 have hg3 : ((((w.alloc T.box).alloc (rqO r)).alloc (tbO 0 0 (.slice none 0 0) (.slice none 0 0))).alloc (anO ⟨0,0,0,0⟩)).heap[w.heap.size + 3]? = some (anO ⟨0,0,0,0⟩):=by have h:=heap_alloc_new (((w.alloc T.box).alloc (rqO r)).alloc (tbO 0 0 (.slice none 0 0) (.slice none 0 0))) (anO ⟨0,0,0,0⟩);rw [hs3] at h;exact h
 unfold Tv.box at hb1 hg0 hg1 hg2 hg3
 rw [hlv,hsv] at hb1 hg0 hg1 hg2 hg3
 unfold tvV rqV
 rw [hlv,hsv]
 clear hT hG hN hn hr hlv hsv hs1 hs2 hs3
 go_enter Try.func57,Try.ntmps57
 go_upto_region 1 with fail
 change Code.wp _ _ _ _ ((((w.alloc (.cells #[.int .i64 T.tm,.int .i64 T.nx,.slice la T.ls.length lc,.slice sa0 T.ss.length sc0] 31 (0,0))).alloc (rqO r)).alloc (tbO 0 0 (.slice none 0 0) (.slice none 0 0))).alloc (anO ⟨0,0,0,0⟩))
 generalize (((w.alloc (.cells #[.int .i64 T.tm,.int .i64 T.nx,.slice la T.ls.length lc,.slice sa0 T.ss.length sc0] 31 (0,0))).alloc (rqO r)).alloc (tbO 0 0 (.slice none 0 0) (.slice none 0 0))).alloc (anO ⟨0,0,0,0⟩) = W0 at hb1 hg0 hg1 hg2 hg3 ⊢
 rw [show w.heap.size + 1 + 1 + 1 = w.heap.size + 3 from rfl,show w.heap.size + 1 + 1 = w.heap.size + 2 from rfl]
 obtain ⟨n0,n1,n2,n3,-,-,-,-⟩:=box_facts hg0
 have HB0:=Aside0.mk hb1
 have HG1:=Aside0.mk hg1
 have HG2:=Aside0.mk hg2
 have HG3:=Aside0.mk hg3
 clear hb1 hg0 hg1 hg2 hg3
 go_wp2_with fail
 have hq:=sexpire_calls W0 T now N (HT.out.below HB0.out) HG.out HN.out HNW.out
 unfold tvV at hq
 rw [HLV0.out,HSV0.out] at hq
 with_reducible refine hq.mono ?_
 clear hq
 rintro _ W1 ⟨T1,rfl,hp1,ht1,hk1,hbl⟩
 have HB1:=Aside0.mk (below_then HB0.out HB0.out.size hbl)
 have HT1:=Aside0.mk ht1
 have HP1:=Aside0.mk hp1
 have HK1:=Aside0.mk hk1
 have HG11:=Aside0.mk ((hbl.block _ (blk_lt HG1.out)).trans HG1.out)
 have HG21:=Aside0.mk ((hbl.block _ (blk_lt HG2.out)).trans HG2.out)
 have HG31:=Aside0.mk ((hbl.block _ (blk_lt HG3.out)).trans HG3.out)
 obtain ⟨la1,lc1,hlv1⟩:=ht1.rl.slice
 obtain ⟨sa,scap,hsv1⟩:=ht1.rs.slice
 rw [hlv1,hsv1]
 have HLV:=Aside0.mk hlv1
 have HSV:=Aside0.mk hsv1
 clear hbl ht1 hp1 hk1 n0 n1 n2 n3
 go_upto_region 2 with fail
 have hb2:=below_alloc (Below.refl W1.heap.size W1) (.cells #[.int .i64 T1.tm,.int .i64 T1.nx,.slice la1 T1.ls.length lc1,.slice sa T1.ss.length scap] 31 (0,0))
 have hg2:=heap_alloc_new W1 (.cells #[.int .i64 T1.tm,.int .i64 T1.nx,.slice la1 T1.ls.length lc1,.slice sa T1.ss.length scap] 31 (0,0))
 have hlt0 : w.heap.size + 3 < W0.heap.size:=blk_lt HG3.out
 have C2 : Aside0 (P2 w (W1.alloc (.cells #[.int .i64 T1.tm,.int .i64 T1.nx,.slice la1 T1.ls.length lc1,.slice sa T1.ss.length scap] 31 (0,0))) W1.heap.size T1 r) :=
  ⟨⟨tv_box HT1.out hb2 (by unfold Tv.box;rw [hlv1,hsv1];exact hg2) (Nat.le_refl _),fun b hb => by have:=HK1.out b hb;omega,blk_lt HG31.out,(hb2.block _ (blk_lt HG11.out)).trans HG11.out,(hb2.block _ (blk_lt HG21.out)).trans HG21.out,(hb2.block _ (blk_lt HG31.out)).trans HG31.out,below_then HB1.out HB1.out.size hb2⟩⟩
 generalize W1.alloc (.cells #[.int .i64 T1.tm,.int .i64 T1.nx,.slice la1 T1.ls.length lc1,.slice sa T1.ss.length scap] 31 (0,0)) = W2 at C2 ⊢
 obtain ⟨g,hg⟩ : ∃ g,g = W1.heap.size:=⟨_,rfl⟩
 rw [← hg] at C2 ⊢
 clear hb2 hg2 hg hlt0 hlv1 hsv1
 have HG1 : Aside0 (TGood (N + 4) (Tv.pu T1)):=⟨by rw [HP1.out];exact good_goOn HG.out HNW.out⟩
 have HQ0:=Aside0.mk (show reqX (Tv.pu T) now r = reqY (Tv.pu T1) r by rw [reqX_eq,HP1.out])
 have HL6:=Aside0.mk (show T1.ss.length ≤ 6 from HG1.out.s6)
 have HSN:=Aside0.mk (show sortS T1.ss from HG1.out.sn)
 obtain ⟨k,hk⟩ : ∃ k,k = posS r.f0 T1.ss:=⟨_,rfl⟩
 have HK:=Aside0.mk hk
 have HPL:=Aside0.mk (show k ≤ T1.ss.length by rw [hk];exact takeWhile_le _ _)
 have HLESS:=Aside0.mk (show ∀ i (hi : i < T1.ss.length),decide ((T1.ss[i]).f0 < r.f0) = decide (i < k) from fun i hi => by
  have h:=posS_cmp HSN.out r.f0 i hi
  rw [rdN_at _ i hi,← hk] at h
  rw [Bool.eq_iff_iff,decide_eq_true_eq,decide_eq_true_eq,← h]
  omega)
 clear hk
 go_wp2_with fail
 go_loopg [9] k (fun gh v9 wx => ∃ i : Nat,v9 = .int .i64 i ∧ i ≤ k ∧ Aside0 (i + gh = k) ∧ Aside0 (P2 w wx g T1 r))
 case atStart => exact ⟨0,rfl,Nat.zero_le _,⟨by omega⟩,C2⟩
 case round =>
  obtain ⟨wi,rfl⟩ : ∃ wi : World,wi = wr:=⟨_,rfl⟩
  obtain ⟨i,rfl,hi,HM,CI⟩:=hrel
  have hL6:=HL6.out
  have hPL:=HPL.out
  go_upto_region 3 with fail
  have C2:=Aside0.mk (CI.out.below (below_drew (Below.refl _ _)))
  have y3:=C2.out.tb.cells.2.2.2.1
  rw [HSV.out] at y3
  obtain ⟨r0,-,-,-,-⟩:=C2.out.rqs
  by_cases hil : i < T1.ss.length
  ·
   obtain ⟨sb,so,scap',hsv,hsos⟩:=C2.out.tb.v.rs.addr (by omega)
   obtain ⟨rfl,rfl⟩ : sa = some ⟨sb,so,none⟩ ∧ scap = scap':=by
    have h:=HSV.out
    rw [hsv] at h
    injection h with h1 _ h3
    exact ⟨h1.symm,h3.symm⟩
   have HOS:=Aside0.mk hsos
   have HKL:=Aside0.mk hil
   obtain ⟨x,hx⟩ : ∃ x,x = T1.ss[i]'HKL.out:=⟨_,rfl⟩
   have hles:=HLESS.out i hil
   rw [← hx] at hles
   have HX:=Aside0.mk hx.symm
   have x0:=(seen_cells C2.out.tb.v HSV.out HKL.out 0 (by omega)).1
   rw [HX.out] at x0
   simp only [sc,List.getElem_cons_zero,Nat.add_zero] at x0
   have p0 : ((i : Int) < (T1.ss.length : Int)) = True:=eq_true (by omega)
   have p1 : (0 ≤ (i : Int)) = True:=eq_true (by omega)
   have p2 : decide ((i : Int) < (T1.ss.length : Int)) = true:=decide_eq_true (by omega)
   clear hsv hsos hx
   by_cases hlt : i < k
   ·
    have q3 : decide (x.f0 < r.f0) = true:=by rw [hles];exact decide_eq_true hlt
    clear hles
    refine start_ (n:=16) (S:=fun w' => w'.cell? ⟨g,3,none⟩ = some (.slice (some ⟨sb,so,none⟩) T1.ss.length scap) ∧ w'.cell? ⟨sb,so + i * 6,none⟩ = some (.int .i64 x.f0) ∧ w'.cell? ⟨w.heap.size + 1,0,none⟩ = some (.int .i64 r.f0)) (ds:=[]) #[false,false,false,false,false,false,false,false,false,false,false,false,false,false,false,false] (by kernel_rfl) rfl rfl ⟨y3,x0,r0⟩ (fun hHeld => ?_)
    clear y3 x0 r0
    generalize wi.drew = V2 at C2 hHeld ⊢
    refine pq 0 (some 16) ?_
    refine pq 1 (some 17) ?_
    refine tq 2 (some 18) hHeld ?_
    refine pq 3 (some 19) ?_
    refine pq 4 (some 20) ?_
    refine pq 5 (some 21) ?_
    refine pq 6 (some 22) ?_
    refine pq 8 (some 24) ?_
    refine pq 12 (some 28) ?_
    refine tq 7 (some 23) hHeld ?_
    refine pq 9 (some 25) ?_
    refine pq 10 (some 26) ?_
    refine tq 11 (some 27) hHeld ?_
    refine tq 13 (some 29) hHeld ?_
    refine pq 14 (some 30) ?_
    refine pq 15 (some 31) ?_
    refine done_ (by kernel_rfl) ?_
    clear hHeld
    go_wp2_with fail
    go_roundg (gk - 1)
    case measure => have:=HM.out;omega
    case rel => exact ⟨i + 1,by go_num,by omega,⟨by have:=HM.out;omega⟩,C2⟩
   ·
    have q3 : decide (x.f0 < r.f0) = false:=by rw [hles];exact decide_eq_false hlt
    clear hles
    obtain rfl : i = k:=by omega
    refine start_ (n:=16) (S:=fun w' => w'.cell? ⟨g,3,none⟩ = some (.slice (some ⟨sb,so,none⟩) T1.ss.length scap) ∧ w'.cell? ⟨sb,so + i * 6,none⟩ = some (.int .i64 x.f0) ∧ w'.cell? ⟨w.heap.size + 1,0,none⟩ = some (.int .i64 r.f0)) (ds:=[]) #[false,false,false,false,false,false,false,false,false,false,false,false,false,false,false,false] (by kernel_rfl) rfl rfl ⟨y3,x0,r0⟩ (fun hHeld => ?_)
    clear y3 x0 r0
    generalize wi.drew = V2 at C2 hHeld ⊢
    refine pq 0 (some 16) ?_
    refine pq 1 (some 17) ?_
    refine tq 2 (some 18) hHeld ?_
    refine pq 3 (some 19) ?_
    refine pq 4 (some 20) ?_
    refine pq 5 (some 21) ?_
    refine pq 6 (some 22) ?_
    refine pq 8 (some 24) ?_
    refine pq 12 (some 28) ?_
    refine tq 7 (some 23) hHeld ?_
    refine pq 9 (some 25) ?_
    refine pq 10 (some 26) ?_
    refine tq 11 (some 27) hHeld ?_
    refine tq 13 (some 29) hHeld ?_
    refine pq 14 (some 30) ?_
    refine pq 15 (some 31) ?_
    refine done_ (by kernel_rfl) ?_
    clear hHeld q3 hlt
    have HRX:=Aside0.mk (show rd_T77 T1.ss (i : Nat) = x by rw [rdN_at _ _ HKL.out];exact HX.out)
    go_upto_region 5 with fail
    have C3:=Aside0.mk (C2.out.below (below_drew (Below.refl _ _)))
    have y3:=C3.out.tb.cells.2.2.2.1
    rw [HSV.out] at y3
    obtain ⟨r0,-,-,-,-⟩:=C3.out.rqs
    have x0:=(seen_cells C3.out.tb.v HSV.out HKL.out 0 (by omega)).1
    rw [HX.out] at x0
    simp only [sc,List.getElem_cons_zero,Nat.add_zero] at x0
    by_cases heq : x.f0 = r.f0
    ·
     have q5 : (x.f0 == r.f0) = true:=by simpa using heq
     have HTH:=Aside0.mk (show true = thereS r.f0 T1.ss by
      unfold thereS
      rw [← HK.out,HRX.out,heq]
      simp [HKL.out])
     clear heq
     refine start_ (n:=17) (S:=fun w' => w'.cell? ⟨g,3,none⟩ = some (.slice (some ⟨sb,so,none⟩) T1.ss.length scap) ∧ w'.cell? ⟨sb,so + i * 6,none⟩ = some (.int .i64 x.f0) ∧ w'.cell? ⟨w.heap.size + 1,0,none⟩ = some (.int .i64 r.f0)) (ds:=[]) #[false,false,false,false,false,false,false,false,false,false,false,false,false,false,false,false,false] (by kernel_rfl) rfl rfl ⟨y3,x0,r0⟩ (fun hHeld => ?_)
     clear y3 x0 r0
     generalize V2.drew = V3 at C3 hHeld ⊢
     refine pq 0 (some 34) ?_
     refine pq 1 (some 35) ?_
     refine tq 2 (some 36) hHeld ?_
     refine pq 3 (some 37) ?_
     refine pq 4 (some 38) ?_
     refine pq 5 (some 39) ?_
     refine pq 6 (some 40) ?_
     refine pq 8 (some 42) ?_
     refine pq 12 (some 46) ?_
     refine tq 7 (some 41) hHeld ?_
     refine pq 9 (some 43) ?_
     refine pq 10 (some 44) ?_
     refine tq 11 (some 45) hHeld ?_
     refine tq 13 (some 47) hHeld ?_
     refine pq 14 (some 48) ?_
     refine pq 15 (some 49) ?_
     refine pq 16 (some 10) ?_
     refine done_ (by kernel_rfl) ?_
     clear hHeld q5
     go_upto_region 6 with fail
     have C4:=Aside0.mk (C3.out.below (below_drew (Below.refl _ _)))
     have y3:=C4.out.tb.cells.2.2.2.1
     rw [HSV.out] at y3
     obtain ⟨-,r1,-,-,-⟩:=C4.out.rqs
     have x1:=(seen_cells C4.out.tb.v HSV.out HKL.out 1 (by omega)).1
     rw [HX.out] at x1
     simp only [sc,List.getElem_cons_zero,List.getElem_cons_succ] at x1
     by_cases hst : x.f1 = r.f1
     ·
      have q0 : (x.f1 == r.f1) = true:=by simpa using hst
      have HQ:=Aside0.mk (HQ0.out.trans (reqY_same HK.out HRX.out HTH.out hst))
      clear hst
      refine start_ (n:=13) (S:=fun w' => w'.cell? ⟨g,3,none⟩ = some (.slice (some ⟨sb,so,none⟩) T1.ss.length scap) ∧ w'.cell? ⟨sb,so + i * 6 + 1,none⟩ = some (.int .i64 x.f1) ∧ w'.cell? ⟨w.heap.size + 1,1,none⟩ = some (.int .i64 r.f1)) (ds:=[]) #[false,false,false,false,false,false,false,false,false,false,false,false,false] (by kernel_rfl) rfl rfl ⟨y3,x1,r1⟩ (fun hHeld => ?_)
      clear y3 x1 r1
      generalize V3.drew = V4 at C4 hHeld ⊢
      refine pq 0 (some 51) ?_
      refine pq 1 (some 52) ?_
      refine pq 2 (some 53) ?_
      refine pq 4 (some 55) ?_
      refine pq 8 (some 59) ?_
      refine tq 3 (some 54) hHeld ?_
      refine pq 5 (some 56) ?_
      refine pq 6 (some 57) ?_
      refine tq 7 (some 58) hHeld ?_
      refine tq 9 (some 60) hHeld ?_
      refine pq 10 (some 61) ?_
      refine pq 11 (some 62) ?_
      refine pq 12 (some 50) ?_
      refine done_ (by kernel_rfl) ?_
      clear hHeld q0
      go_upto_region 7 with fail
      have C5:=Aside0.mk (C4.out.below (below_drew (Below.refl _ _)))
      obtain ⟨y0,y1,y2,y3,-,-,-,-⟩:=C5.out.tb.cells
      rw [HLV.out] at y2
      rw [HSV.out] at y3
      have HL2:=HLV
      have HV2:=HSV
      have z:=fun j hj => (seen_cells C5.out.tb.v HSV.out HKL.out j hj).1
      rw [HX.out] at z
      have z2:=z 2 (by omega)
      have z3:=z 3 (by omega)
      have z4:=z 4 (by omega)
      have z5:=z 5 (by omega)
      simp only [sc,List.getElem_cons_zero,List.getElem_cons_succ] at z2 z3 z4 z5
      clear z
      refine start_ (n:=9) (S:=fun w' => w'.cell? ⟨g,0,none⟩ = some (.int .i64 T1.tm) ∧ w'.cell? ⟨g,1,none⟩ = some (.int .i64 T1.nx) ∧ w'.cell? ⟨g,2,none⟩ = some (.slice la1 T1.ls.length lc1) ∧ w'.cell? ⟨g,3,none⟩ = some (.slice (some ⟨sb,so,none⟩) T1.ss.length scap) ∧ w'.cell? ⟨sb,so + i * 6 + 2,none⟩ = some (.int .i64 x.f2.f0) ∧ w'.cell? ⟨sb,so + i * 6 + 3,none⟩ = some (.int .i64 x.f2.f1) ∧ w'.cell? ⟨sb,so + i * 6 + 4,none⟩ = some (.int .i64 x.f2.f2) ∧ w'.cell? ⟨sb,so + i * 6 + 5,none⟩ = some (.int .i64 x.f2.f3)) (ds:=[8]) #[false,false,false,false,false,false,false,false,false] (by kernel_rfl) rfl rfl ⟨y0,y1,y2,y3,z2,z3,z4,z5⟩ (fun hHeld => ?_)
      clear y0 y1 y2 y3 z2 z3 z4 z5
      generalize V4.drew = V5 at C5 hHeld ⊢
      obtain ⟨n0,n1,n2,n3,m0,m1,m2,m3⟩:=box_facts C5.out.rt
      obtain ⟨a0,a1,a2,a3,b0,b1,b2,b3⟩:=box_facts C5.out.ra
      refine pq 1 (some 64) ?_
      refine pq 3 (some 66) ?_
      refine tq 0 (some 63) hHeld ?_
      refine tq 2 (some 65) hHeld ?_
      refine pq 4 (some 67) ?_
      refine pq 5 (some 68) ?_
      refine tq 6 (some 69) hHeld ?_
      refine nq 7 none fun K hK => ?_
      refine sq ?_
      have hQ:=C5.out.setT
      rw [HL2.out,HV2.out] at hQ
      have HQ2:=Aside0.mk hQ
      clear hQ hHeld n0 n1 n2 n3 m0 m1 m2 m3 a0 a1 a2 a3 b0 b1 b2 b3
      obtain ⟨V7,hV7⟩ : ∃ V7,V7 = w4 V5 (w.heap.size + 2) (.int .i64 T1.tm) (.int .i64 T1.nx) (.slice la1 T1.ls.length lc1) (.slice (some ⟨sb,so,none⟩) T1.ss.length scap):=⟨_,rfl⟩
      rw [← hV7] at HQ2
      unfold w4 at hV7
      rw [← hV7]
      clear hV7
      obtain ⟨y0,y1,y2,y3,-,-,-,-⟩:=HQ2.out.tb.cells
      rw [HLV.out] at y2
      rw [HSV.out] at y3
      obtain ⟨a0,a1,a2,a3,b0,b1,b2,b3⟩:=box_facts HQ2.out.ra
      have z:=fun j hj => (seen_cells HQ2.out.tb.v HSV.out HKL.out j hj).1
      rw [HX.out] at z
      have z2:=z 2 (by omega)
      have z3:=z 3 (by omega)
      have z4:=z 4 (by omega)
      have z5:=z 5 (by omega)
      simp only [sc,List.getElem_cons_zero,List.getElem_cons_succ] at z2 z3 z4 z5
      clear z
      refine hK.out _ _ ⟨y0,y1,y2,y3,z2,z3,z4,z5⟩ (fun hHeld => ?_)
      clear hK K
      refine lq 8 none fun K hK => ?_
      refine sq ?_
      refine hK.out _ _ ?_
      clear hK K
      refine done_ (by kernel_rfl) ?_
      (try clear hHeld)
      go_wp2_with fail
      have hA:=HQ2.out.setA x.f2
      rw [HL2.out,HV2.out] at hA
      refine bodyPost_ret (results_two rfl _ _ (w.heap.size + 2) 31 _ (0,0) _ (w.heap.size + 3) 75 _ (0,0) _ rfl rfl hA.2.1 hA.2.2.1 Try.underlying31 rfl (by kernel_rfl) Try.underlying75 rfl (by kernel_rfl)) rfl ?_
      exact HQ2.out.out x.f2 (HQ.out.symm) (by unfold tvV anV;rw [HL2.out,HV2.out])
     ·
      have q0 : (x.f1 == r.f1) = false:=by simpa using hst
      have HST:=Aside0.mk hst
      clear hst
      refine start_ (n:=13) (S:=fun w' => w'.cell? ⟨g,3,none⟩ = some (.slice (some ⟨sb,so,none⟩) T1.ss.length scap) ∧ w'.cell? ⟨sb,so + i * 6 + 1,none⟩ = some (.int .i64 x.f1) ∧ w'.cell? ⟨w.heap.size + 1,1,none⟩ = some (.int .i64 r.f1)) (ds:=[]) #[false,false,false,false,false,false,false,false,false,false,false,false,false] (by kernel_rfl) rfl rfl ⟨y3,x1,r1⟩ (fun hHeld => ?_)
      clear y3 x1 r1
      generalize V3.drew = V4 at C4 hHeld ⊢
      refine pq 0 (some 51) ?_
      refine pq 1 (some 52) ?_
      refine pq 2 (some 53) ?_
      refine pq 4 (some 55) ?_
      refine pq 8 (some 59) ?_
      refine tq 3 (some 54) hHeld ?_
      refine pq 5 (some 56) ?_
      refine pq 6 (some 57) ?_
      refine tq 7 (some 58) hHeld ?_
      refine tq 9 (some 60) hHeld ?_
      refine pq 10 (some 61) ?_
      refine pq 11 (some 62) ?_
      refine pq 12 (some 50) ?_
      refine done_ (by kernel_rfl) ?_
      clear hHeld q0
      go_upto_region 8 with fail
      have C5:=Aside0.mk (C4.out.below (below_drew (Below.refl _ _)))
      have y3:=C5.out.tb.cells.2.2.2.1
      rw [HSV.out] at y3
      obtain ⟨-,r1,-,-,-⟩:=C5.out.rqs
      have x1:=(seen_cells C5.out.tb.v HSV.out HKL.out 1 (by omega)).1
      rw [HX.out] at x1
      simp only [sc,List.getElem_cons_zero,List.getElem_cons_succ] at x1
      by_cases hold : r.f1 < x.f1
      ·
       have q1 : decide (r.f1 < x.f1) = true:=decide_eq_true hold
       have HQ:=Aside0.mk (HQ0.out.trans (reqY_old HK.out HRX.out HTH.out HST.out hold))
       clear hold
       refine start_ (n:=13) (S:=fun w' => w'.cell? ⟨g,3,none⟩ = some (.slice (some ⟨sb,so,none⟩) T1.ss.length scap) ∧ w'.cell? ⟨sb,so + i * 6 + 1,none⟩ = some (.int .i64 x.f1) ∧ w'.cell? ⟨w.heap.size + 1,1,none⟩ = some (.int .i64 r.f1)) (ds:=[]) #[false,false,false,false,false,false,false,false,false,false,false,false,false] (by kernel_rfl) rfl rfl ⟨y3,x1,r1⟩ (fun hHeld => ?_)
       clear y3 x1 r1
       generalize V4.drew = V5 at C5 hHeld ⊢
       refine pq 0 (some 71) ?_
       refine pq 1 (some 72) ?_
       refine pq 2 (some 73) ?_
       refine pq 4 (some 75) ?_
       refine pq 8 (some 79) ?_
       refine tq 3 (some 74) hHeld ?_
       refine pq 5 (some 76) ?_
       refine pq 6 (some 77) ?_
       refine tq 7 (some 78) hHeld ?_
       refine tq 9 (some 80) hHeld ?_
       refine pq 10 (some 81) ?_
       refine pq 11 (some 82) ?_
       refine pq 12 (some 70) ?_
       refine done_ (by kernel_rfl) ?_
       clear hHeld q1
       obtain ⟨la2,lc2,hlv2⟩:=C5.out.tb.v.rl.slice
       obtain ⟨sa2,sc2,hsv2⟩:=C5.out.tb.v.rs.slice
       obtain ⟨y0,y1,y2,y3,-,-,-,-⟩:=C5.out.tb.cells
       rw [hlv2] at y2
       rw [hsv2] at y3
       have HL2:=Aside0.mk hlv2
       have HV2:=Aside0.mk hsv2
       obtain ⟨n0,n1,n2,n3,m0,m1,m2,m3⟩:=box_facts C5.out.rt
       obtain ⟨a0,a1,a2,a3,b0,b1,b2,b3⟩:=box_facts C5.out.ra
       clear hlv2 hsv2
       go_wp2_with fail
       have hQ:=C5.out.setT
       rw [HL2.out,HV2.out] at hQ
       have hA:=hQ.setA ⟨7,0,-1,0⟩
       rw [HL2.out,HV2.out] at hA
       refine bodyPost_ret (results_two rfl _ _ (w.heap.size + 2) 31 _ (0,0) _ (w.heap.size + 3) 75 _ (0,0) _ rfl rfl hA.2.1 hA.2.2.1 Try.underlying31 rfl (by kernel_rfl) Try.underlying75 rfl (by kernel_rfl)) rfl ?_
       exact hQ.out ⟨7,0,-1,0⟩ (HQ.out.symm) (by unfold tvV anV;rw [HL2.out,HV2.out])
      ·
       have q1 : decide (r.f1 < x.f1) = false:=decide_eq_false hold
       have HOLD:=Aside0.mk hold
       clear hold
       refine start_ (n:=13) (S:=fun w' => w'.cell? ⟨g,3,none⟩ = some (.slice (some ⟨sb,so,none⟩) T1.ss.length scap) ∧ w'.cell? ⟨sb,so + i * 6 + 1,none⟩ = some (.int .i64 x.f1) ∧ w'.cell? ⟨w.heap.size + 1,1,none⟩ = some (.int .i64 r.f1)) (ds:=[]) #[false,false,false,false,false,false,false,false,false,false,false,false,false] (by kernel_rfl) rfl rfl ⟨y3,x1,r1⟩ (fun hHeld => ?_)
       clear y3 x1 r1
       generalize V4.drew = V5 at C5 hHeld ⊢
       refine pq 0 (some 71) ?_
       refine pq 1 (some 72) ?_
       refine pq 2 (some 73) ?_
       refine pq 4 (some 75) ?_
       refine pq 8 (some 79) ?_
       refine tq 3 (some 74) hHeld ?_
       refine pq 5 (some 76) ?_
       refine pq 6 (some 77) ?_
       refine tq 7 (some 78) hHeld ?_
       refine tq 9 (some 80) hHeld ?_
       refine pq 10 (some 81) ?_
       refine pq 11 (some 82) ?_
       refine pq 12 (some 70) ?_
       refine done_ (by kernel_rfl) ?_
       clear hHeld q1
       obtain ⟨r0,r1,r2,r3,r4⟩:=C5.out.rqs
       go_wp2_with fail
       have hq:=sdo_calls g _ T1 r C5.out.tb (show 0 ≤ T1.tm ∧ T1.tm ≤ 1000000000 from HG1.out.tm) (by have h1 : 1 ≤ T1.nx ∧ T1.nx ≤ N + 4:=HG1.out.nx;have:=HN.out;omega) (by have h1 : (T1.ls.map EL.x).length ≤ 4:=HG1.out.l4;rw [List.length_map] at h1;exact h1) HG1.out.sl (fun e he => HG1.out.gl e.x (List.mem_map_of_mem he)) HR.out.c.1 HR.out.l
       unfold rqV at hq
       with_reducible refine hq.mono ?_
       clear hq
       rintro _ W9 ⟨a,T2,rfl,ht1,ht2,ht3,hst⟩
       have C9:=Aside0.mk (C5.out.step hst)
       have HD:=Aside0.mk ht3
       have HT1:=Aside0.mk ht1
       have HT2:=Aside0.mk ht2
       clear hst ht1 ht2 ht3 r0 r1 r2 r3 r4
       unfold anV
       go_upto_region 13 with fail
       change Code.wp _ _ _ _ (W9.alloc (anO a))
       have C10:=Aside0.mk (C9.out.below (below_alloc (Below.refl _ _) (anO a)))
       have hna:=new_nb C9.out.tb
       have hga:=heap_alloc_new W9 (anO a)
       have HNW2:=Aside0.mk (show w.heap.size + 3 < W9.heap.size from blk_lt C9.out.ra)
       generalize W9.alloc (anO a) = W10 at C10 hga ⊢
       generalize W9.heap.size = na at hna hga HNW2 ⊢
       have HNA:=Aside0.mk hna
       have HNA2:=HNW2
       have HGA:=Aside0.mk hga
       obtain ⟨a0,a1,a2,a3⟩:=an_cells hga
       obtain ⟨r0,r1,-,-,-⟩:=C10.out.rqs
       clear hna hga
       go_upto_region 14 with fail
       clear a0 a1 a2 a3 r0 r1
       change Code.wp _ _ _ _ (W10.alloc (snO ⟨r.f0,r.f1,a⟩))
       have hb11:=below_alloc (Below.refl W10.heap.size W10) (snO ⟨r.f0,r.f1,a⟩)
       have C11:=Aside0.mk (C10.out.below hb11)
       have HGA1:=Aside0.mk ((hb11.block na (blk_lt HGA.out)).trans HGA.out)
       have hns:=new_nb C10.out.tb
       have hgs:=heap_alloc_new W10 (snO ⟨r.f0,r.f1,a⟩)
       generalize W10.alloc (snO ⟨r.f0,r.f1,a⟩) = W11 at C11 HGA1 hgs ⊢
       generalize W10.heap.size = ns at hns hgs ⊢
       have HNS:=Aside0.mk hns
       have HGS:=Aside0.mk hgs
       clear hns hgs hb11
       have HK2:=Aside0.mk (show i < T2.ss.length by rw [HT2.out];exact HKL.out)
       obtain ⟨sb2,so2,sc2,hsv2,hsos2⟩:=C11.out.tb.v.rs.addr (by have:=HK2.out;omega)
       have HSV2:=Aside0.mk hsv2
       have HOS2:=Aside0.mk hsos2
       have p3 : ((i : Int) < (T2.ss.length : Int)) = True:=eq_true (by have:=HK2.out;omega)
       have y3:=C11.out.tb.cells.2.2.2.1
       rw [HSV2.out] at y3
       obtain ⟨s0,s1,s2,s3,s4,s5⟩:=sn_cells HGS.out
       have z:=fun j hj => seen_cells C11.out.tb.v HSV2.out HK2.out j hj
       obtain ⟨z0,f0⟩:=z 0 (by omega)
       obtain ⟨z1,f1⟩:=z 1 (by omega)
       obtain ⟨z2,f2⟩:=z 2 (by omega)
       obtain ⟨z3,f3⟩:=z 3 (by omega)
       obtain ⟨z4,f4⟩:=z 4 (by omega)
       obtain ⟨z5,f5⟩:=z 5 (by omega)
       rw [Nat.add_zero] at z0 f0
       clear z hsv2 hsos2
       go_upto_region 17 with fail
       clear z0 z1 z2 z3 z4 z5 f0 f1 f2 f3 f4 f5 p3 s0 s1 s2 s3 s4 s5 y3
       have hS:=St.seen (St.refl C11.out.tb) HSV2.out HOS2.out HK2.out ⟨r.f0,r.f1,a⟩
       have C14:=Aside0.mk (C11.out.step hS)
       have HGA4:=Aside0.mk (St.keep hS HGA1.out HNA.out).1
       change Code.wp _ _ _ _ (six W11 sb2 (so2 + i * 6) ⟨r.f0,r.f1,a⟩)
       generalize six W11 sb2 (so2 + i * 6) ⟨r.f0,r.f1,a⟩ = W14 at C14 HGA4 ⊢
       obtain ⟨T3,hT3⟩ : ∃ T3 : Tv,T3 = { T2 with ss:=T2.ss.set i ⟨r.f0,r.f1,a⟩ }:=⟨_,rfl⟩
       rw [← hT3] at C14
       have HT3:=Aside0.mk hT3
       clear hS hT3
       have C17:=Aside0.mk (C14.out.below (below_drew (Below.refl _ _)))
       have HGA5:=Aside0.mk (show W14.drew.heap[na]? = some (anO a) from HGA4.out)
       obtain ⟨la2,lc2,hlv2⟩:=C17.out.tb.v.rl.slice
       obtain ⟨sa2,sc2,hsv2⟩:=C17.out.tb.v.rs.slice
       have HL2:=Aside0.mk hlv2
       have HV2:=Aside0.mk hsv2
       obtain ⟨y0,y1,y2,y3,-,-,-,-⟩:=C17.out.tb.cells
       rw [hlv2] at y2
       rw [hsv2] at y3
       obtain ⟨a0,a1,a2,a3⟩:=an_cells HGA5.out
       clear hlv2 hsv2
       refine start_ (n:=4) (S:=fun w' => w'.cell? ⟨g,0,none⟩ = some (.int .i64 T3.tm) ∧ w'.cell? ⟨g,1,none⟩ = some (.int .i64 T3.nx) ∧ w'.cell? ⟨g,2,none⟩ = some (.slice la2 T3.ls.length lc2) ∧ w'.cell? ⟨g,3,none⟩ = some (.slice sa2 T3.ss.length sc2) ∧ w'.cell? ⟨na,0,none⟩ = some (.int .i64 a.f0) ∧ w'.cell? ⟨na,1,none⟩ = some (.int .i64 a.f1) ∧ w'.cell? ⟨na,2,none⟩ = some (.int .i64 a.f2) ∧ w'.cell? ⟨na,3,none⟩ = some (.int .i64 a.f3)) (ds:=[3]) #[false,false,false,false] (by kernel_rfl) rfl rfl ⟨y0,y1,y2,y3,a0,a1,a2,a3⟩ (fun hHeld => ?_)
       clear y0 y1 y2 y3 a0 a1 a2 a3
       generalize W14.drew = V17 at C17 HGA5 hHeld ⊢
       obtain ⟨n0,n1,n2,n3,m0,m1,m2,m3⟩:=box_facts C17.out.rt
       obtain ⟨o0,o1,o2,o3,b0,b1,b2,b3⟩:=box_facts C17.out.ra
       refine tq 0 (some 125) hHeld ?_
       refine tq 1 (some 126) hHeld ?_
       refine nq 2 none fun K hK => ?_
       refine sq ?_
       have hfr2:=C17.out.fr
       have hQ:=C17.out.setT
       rw [HL2.out,HV2.out] at hQ hfr2
       have HQ2:=Aside0.mk hQ
       have hga2:=hfr2.blk HGA5.out (fun e => by have:=HNA2.out;omega)
       clear hQ hfr2 hHeld n0 n1 n2 n3 m0 m1 m2 m3 o0 o1 o2 o3 b0 b1 b2 b3
       obtain ⟨V18,hV7⟩ : ∃ V18,V18 = w4 V17 (w.heap.size + 2) (.int .i64 T3.tm) (.int .i64 T3.nx) (.slice la2 T3.ls.length lc2) (.slice sa2 T3.ss.length sc2):=⟨_,rfl⟩
       rw [← hV7] at HQ2 hga2
       unfold w4 at hV7
       rw [← hV7]
       clear hV7
       obtain ⟨y0,y1,y2,y3,-,-,-,-⟩:=HQ2.out.tb.cells
       rw [HL2.out] at y2
       rw [HV2.out] at y3
       obtain ⟨o0,o1,o2,o3,b0,b1,b2,b3⟩:=box_facts HQ2.out.ra
       obtain ⟨a0,a1,a2,a3⟩:=an_cells hga2
       refine hK.out _ _ ⟨y0,y1,y2,y3,a0,a1,a2,a3⟩ (fun hHeld => ?_)
       clear hK K
       refine lq 3 none fun K hK => ?_
       refine sq ?_
       refine hK.out _ _ ?_
       clear hK K
       refine done_ (by kernel_rfl) ?_
       (try clear hHeld)
       go_wp2_with fail
       have hA:=HQ2.out.setA a
       rw [HL2.out,HV2.out] at hA
       refine bodyPost_ret (results_two rfl _ _ (w.heap.size + 2) 31 _ (0,0) _ (w.heap.size + 3) 75 _ (0,0) _ rfl rfl hA.2.1 hA.2.2.1 Try.underlying31 rfl (by kernel_rfl) Try.underlying75 rfl (by kernel_rfl)) rfl ?_
       exact HQ2.out.out a (by rw [HQ0.out,reqY_set HK.out HRX.out HTH.out HST.out (Int.not_lt.2 HOLD.out) HD.out,HT3.out];show ((⟨T2.tm,T2.nx,T2.ls.map EL.x,T2.ss.set i _⟩ : Tp),a) = _;rw [HT1.out,HT2.out];rfl) (by unfold tvV anV;rw [HL2.out,HV2.out])
    ·
     have q5 : (x.f0 == r.f0) = false:=by simpa using heq
     have HTH:=Aside0.mk (show false = thereS r.f0 T1.ss by
      unfold thereS
      rw [← HK.out,HRX.out]
      have : (x.f0 - r.f0 == 0) = false:=by simp;omega
      rw [this,Bool.and_false])
     clear heq
     refine start_ (n:=17) (S:=fun w' => w'.cell? ⟨g,3,none⟩ = some (.slice (some ⟨sb,so,none⟩) T1.ss.length scap) ∧ w'.cell? ⟨sb,so + i * 6,none⟩ = some (.int .i64 x.f0) ∧ w'.cell? ⟨w.heap.size + 1,0,none⟩ = some (.int .i64 r.f0)) (ds:=[]) #[false,false,false,false,false,false,false,false,false,false,false,false,false,false,false,false,false] (by kernel_rfl) rfl rfl ⟨y3,x0,r0⟩ (fun hHeld => ?_)
     clear y3 x0 r0
     generalize V2.drew = V3 at C3 hHeld ⊢
     refine pq 0 (some 34) ?_
     refine pq 1 (some 35) ?_
     refine tq 2 (some 36) hHeld ?_
     refine pq 3 (some 37) ?_
     refine pq 4 (some 38) ?_
     refine pq 5 (some 39) ?_
     refine pq 6 (some 40) ?_
     refine pq 8 (some 42) ?_
     refine pq 12 (some 46) ?_
     refine tq 7 (some 41) hHeld ?_
     refine pq 9 (some 43) ?_
     refine pq 10 (some 44) ?_
     refine tq 11 (some 45) hHeld ?_
     refine tq 13 (some 47) hHeld ?_
     refine pq 14 (some 48) ?_
     refine pq 15 (some 49) ?_
     refine pq 16 (some 10) ?_
     refine done_ (by kernel_rfl) ?_
     clear hHeld q5
     go_upto_region 6 with fail
     have C4:=Aside0.mk (C3.out.below (below_drew (Below.refl _ _)))
     refine start_ (n:=13) (S:=fun w' => True) (ds:=[]) #[false,false,false,false,false,false,false,false,false,false,false,false,false] (by kernel_rfl) rfl rfl trivial (fun hHeld => ?_)
     generalize V3.drew = V4 at C4 hHeld ⊢
     refine pq 0 (some 51) ?_
     refine pq 1 (some 52) ?_
     refine oq 2 (some 53) ?_
     refine oq 3 (some 54) ?_
     refine oq 4 (some 55) ?_
     refine oq 5 (some 56) ?_
     refine oq 6 (some 57) ?_
     refine oq 7 (some 58) ?_
     refine oq 8 (some 59) ?_
     refine oq 9 (some 60) ?_
     refine oq 10 (some 61) ?_
     refine pq 11 (some 62) ?_
     refine pq 12 (some 50) ?_
     refine done_ (by kernel_rfl) ?_
     clear hHeld
     go_upto_region 8 with fail
     have C5:=Aside0.mk (C4.out.below (below_drew (Below.refl _ _)))
     refine start_ (n:=13) (S:=fun w' => True) (ds:=[]) #[false,false,false,false,false,false,false,false,false,false,false,false,false] (by kernel_rfl) rfl rfl trivial (fun hHeld => ?_)
     generalize V4.drew = V5 at C5 hHeld ⊢
     refine pq 0 (some 71) ?_
     refine pq 1 (some 72) ?_
     refine oq 2 (some 73) ?_
     refine oq 3 (some 74) ?_
     refine oq 4 (some 75) ?_
     refine oq 5 (some 76) ?_
     refine oq 6 (some 77) ?_
     refine oq 7 (some 78) ?_
     refine oq 8 (some 79) ?_
     refine oq 9 (some 80) ?_
     refine oq 10 (some 81) ?_
     refine pq 11 (some 82) ?_
     refine pq 12 (some 70) ?_
     refine done_ (by kernel_rfl) ?_
     clear hHeld
     have y3:=C5.out.tb.cells.2.2.2.1
     rw [HSV.out] at y3
     by_cases hl6 : T1.ss.length = 6
     ·
      have q1 : ((T1.ss.length : Int) == 6) = true:=by rw [hl6];rfl
      have HQ:=Aside0.mk (HQ0.out.trans (reqY_full HTH.out hl6))
      clear hl6 y3
      obtain ⟨la2,lc2,hlv2⟩:=C5.out.tb.v.rl.slice
      obtain ⟨sa2,sc2,hsv2⟩:=C5.out.tb.v.rs.slice
      obtain ⟨y0,y1,y2,y3,-,-,-,-⟩:=C5.out.tb.cells
      rw [hlv2] at y2
      rw [hsv2] at y3
      have HL2:=Aside0.mk hlv2
      have HV2:=Aside0.mk hsv2
      obtain ⟨n0,n1,n2,n3,m0,m1,m2,m3⟩:=box_facts C5.out.rt
      obtain ⟨a0,a1,a2,a3,b0,b1,b2,b3⟩:=box_facts C5.out.ra
      clear hlv2 hsv2
      go_wp2_with fail
      have hQ:=C5.out.setT
      rw [HL2.out,HV2.out] at hQ
      have hA:=hQ.setA ⟨6,0,-1,0⟩
      rw [HL2.out,HV2.out] at hA
      refine bodyPost_ret (results_two rfl _ _ (w.heap.size + 2) 31 _ (0,0) _ (w.heap.size + 3) 75 _ (0,0) _ rfl rfl hA.2.1 hA.2.2.1 Try.underlying31 rfl (by kernel_rfl) Try.underlying75 rfl (by kernel_rfl)) rfl ?_
      exact hQ.out ⟨6,0,-1,0⟩ (HQ.out.symm) (by unfold tvV anV;rw [HL2.out,HV2.out])
     ·
      have q1 : ((T1.ss.length : Int) == 6) = false:=by simp;omega
      have HNF:=Aside0.mk hl6
      clear hl6
      obtain ⟨r0,r1,r2,r3,r4⟩:=C5.out.rqs
      go_wp2_with fail
      have hq:=sdo_calls g _ T1 r C5.out.tb (show 0 ≤ T1.tm ∧ T1.tm ≤ 1000000000 from HG1.out.tm) (by have h1 : 1 ≤ T1.nx ∧ T1.nx ≤ N + 4:=HG1.out.nx;have:=HN.out;omega) (by have h1 : (T1.ls.map EL.x).length ≤ 4:=HG1.out.l4;rw [List.length_map] at h1;exact h1) HG1.out.sl (fun e he => HG1.out.gl e.x (List.mem_map_of_mem he)) HR.out.c.1 HR.out.l
      unfold rqV at hq
      with_reducible refine hq.mono ?_
      clear hq
      rintro _ W9 ⟨a,T2,rfl,ht1,ht2,ht3,hst⟩
      have C9:=Aside0.mk (C5.out.step hst)
      have HD:=Aside0.mk ht3
      have HT1:=Aside0.mk ht1
      have HT2:=Aside0.mk ht2
      clear hst ht1 ht2 ht3 r0 r1 r2 r3 r4
      unfold anV
      go_upto_region 13 with fail
      change Code.wp _ _ _ _ (W9.alloc (anO a))
      have C10:=Aside0.mk (C9.out.below (below_alloc (Below.refl _ _) (anO a)))
      have hna:=new_nb C9.out.tb
      have hga:=heap_alloc_new W9 (anO a)
      have HNW2:=Aside0.mk (show w.heap.size + 3 < W9.heap.size from blk_lt C9.out.ra)
      generalize W9.alloc (anO a) = W10 at C10 hga ⊢
      generalize W9.heap.size = na at hna hga HNW2 ⊢
      have HNA:=Aside0.mk hna
      have HNA2:=HNW2
      have HGA:=Aside0.mk hga
      obtain ⟨a0,a1,a2,a3⟩:=an_cells hga
      obtain ⟨r0,r1,-,-,-⟩:=C10.out.rqs
      clear hna hga
      go_upto_region 14 with fail
      clear a0 a1 a2 a3 r0 r1
      change Code.wp _ _ _ _ (W10.alloc (snO ⟨r.f0,r.f1,a⟩))
      have hb11:=below_alloc (Below.refl W10.heap.size W10) (snO ⟨r.f0,r.f1,a⟩)
      have C11:=Aside0.mk (C10.out.below hb11)
      have HGA1:=Aside0.mk ((hb11.block na (blk_lt HGA.out)).trans HGA.out)
      have hns:=new_nb C10.out.tb
      have hgs:=heap_alloc_new W10 (snO ⟨r.f0,r.f1,a⟩)
      generalize W10.alloc (snO ⟨r.f0,r.f1,a⟩) = W11 at C11 HGA1 hgs ⊢
      generalize W10.heap.size = ns at hns hgs ⊢
      have HNS:=Aside0.mk hns
      have HGS:=Aside0.mk hgs
      clear hns hgs hb11
      clear q1 y3
      have HKP:=Aside0.mk (show i ≤ T2.ss.length by rw [HT2.out];exact HPL.out)
      have HL2x:=Aside0.mk (show T2.ss.length ≤ 6 by rw [HT2.out];exact HL6.out)
      obtain ⟨sa2,sc2,hsv2⟩:=C11.out.tb.v.rs.slice
      have HSV2:=Aside0.mk hsv2
      clear hsv2
      go_upto_region 16 with fail
      have C12:=Aside0.mk (C11.out.below (below_drew (Below.refl _ _)))
      have HGS2:=Aside0.mk (show W11.drew.heap[ns]? = some (snO ⟨r.f0,r.f1,a⟩) from HGS.out)
      have HGA2:=Aside0.mk (show W11.drew.heap[na]? = some (anO a) from HGA1.out)
      have y3:=C12.out.tb.cells.2.2.2.1
      rw [HSV2.out] at y3
      obtain ⟨s0,s1,s2,s3,s4,s5⟩:=sn_cells HGS2.out
      have hkp : i ≤ T2.ss.length:=HKP.out
      have hl2 : T2.ss.length ≤ 6:=HL2x.out
      have hlc : T2.ss.length ≤ sc2:=by
       obtain ⟨_,_,hv,h,_⟩:=C12.out.tb.v.rs
       rw [HSV2.out] at hv
       injection hv with _ _ h3
       rw [h3];exact h
      have hic : i ≤ sc2:=by omega
      refine start_ (n:=16) (S:=fun w' => w'.cell? ⟨g,3,none⟩ = some (.slice sa2 T2.ss.length sc2) ∧ w'.cell? ⟨ns,0,none⟩ = some (.int .i64 r.f0) ∧ w'.cell? ⟨ns,1,none⟩ = some (.int .i64 r.f1) ∧ w'.cell? ⟨ns,2,none⟩ = some (.int .i64 a.f0) ∧ w'.cell? ⟨ns,3,none⟩ = some (.int .i64 a.f1) ∧ w'.cell? ⟨ns,4,none⟩ = some (.int .i64 a.f2) ∧ w'.cell? ⟨ns,5,none⟩ = some (.int .i64 a.f3)) (ds:=[15]) #[false,false,false,false,false,false,false,false,false,false,false,false,false,false,false,false] (by kernel_rfl) rfl rfl ⟨y3,s0,s1,s2,s3,s4,s5⟩ (fun hHeld => ?_)
      clear y3 s0 s1 s2 s3 s4 s5
      generalize W11.drew = V4 at C12 HGS2 HGA2 hHeld ⊢
      have HSF : Aside0 (∀ W_ : World,Below V4.heap.size V4 W_ → (W_.cell? ⟨g,3,none⟩ = some (.slice sa2 T2.ss.length sc2) ∧ W_.cell? ⟨ns,0,none⟩ = some (.int .i64 r.f0) ∧ W_.cell? ⟨ns,1,none⟩ = some (.int .i64 r.f1) ∧ W_.cell? ⟨ns,2,none⟩ = some (.int .i64 a.f0) ∧ W_.cell? ⟨ns,3,none⟩ = some (.int .i64 a.f1) ∧ W_.cell? ⟨ns,4,none⟩ = some (.int .i64 a.f2) ∧ W_.cell? ⟨ns,5,none⟩ = some (.int .i64 a.f3))):=⟨fun W_ hb_ => by have y3_:=(C12.out.below hb_).tb.cells.2.2.2.1;rw [HSV2.out] at y3_;have g_:=(hb_.block _ (blk_lt HGS2.out)).trans HGS2.out;obtain ⟨s0,s1,s2,s3,s4,s5⟩:=sn_cells g_;exact ⟨y3_,s0,s1,s2,s3,s4,s5⟩⟩
      have HBV4:=Aside0.mk (Below.refl V4.heap.size V4)
      refine pq 1 (some 111) ?_
      refine pq 3 (some 113) ?_
      refine pq 9 (some 119) ?_
      refine pq 11 (some 121) ?_
      refine tq 2 (some 112) hHeld ?_
      refine pq 4 (some 114) ?_
      refine tq 6 (some 116) hHeld ?_
      refine tq 10 (some 120) hHeld ?_
      refine pq 12 (some 122) ?_
      refine join_ (σ:=Value × Value × Nat) 4 #[true,true,true,true,true,true,true,true,false,true,true,true,true,false,false,false] (fun s_ => [(110,s_.1),(115,s_.2.1),(117,.slice (some ⟨s_.2.2,0,none⟩) 1 1)]) (fun s_ w_ => Below V4.heap.size V4 w_ ∧ (∃ ob_,Row w_ 77 6 s_.2.1 i ((T2.ss.flatMap sc).take (i * 6)) ob_ ∧ ∀ k_,ob_ = some k_ → V4.heap.size ≤ k_) ∧ w_.heap[s_.2.2]? = some (.cells #[.int .i64 r.f0,.int .i64 r.f1,.int .i64 a.f0,.int .i64 a.f1,.int .i64 a.f2,.int .i64 a.f3] 77 (0,0)) ∧ V4.heap.size ≤ s_.2.2) ?_ ?_
      rotate_left
      ·
       intro hCont
       refine two_ (i:=0) (j:=7) (Ni:=some 110) (Nj:=some 117) #[true,true,true,true,true,false,true,false,false,true,true,true,true,false,false,false] #[false,true,true,true,true,false,true,true,false,true,true,true,true,false,false,false] rfl rfl rfl rfl (by kernel_rfl) (by decide) (by decide) (fun K hK => ?_) (fun K hK => ?_)
       ·
        skip
        refine vq ?_
        have hb_:=below_alloc (Below.refl V4.heap.size V4) (.cells #[] 77 (0,0))
        have HBY0:=Aside0.mk (below_then HBV4.out HBV4.out.size hb_)
        clear hb_ hHeld
        generalize V4.alloc _ = Y0 at HBY0 ⊢
        refine hK.out _ _ ⟨(HSF.out Y0 HBY0.out).1,(HSF.out Y0 HBY0.out).2.1,(HSF.out Y0 HBY0.out).2.2.1,(HSF.out Y0 HBY0.out).2.2.2.1,(HSF.out Y0 HBY0.out).2.2.2.2.1,(HSF.out Y0 HBY0.out).2.2.2.2.2.1,(HSF.out Y0 HBY0.out).2.2.2.2.2.2⟩ (fun hHeld => ?_)
        clear hK K
        refine mq ?_
        refine two_ (i:=5) (j:=7) (Ni:=some 115) (Nj:=some 117) #[true,true,true,true,true,true,true,false,false,true,true,true,true,false,false,false] #[true,true,true,true,true,false,true,true,false,true,true,true,true,false,false,false] rfl rfl rfl rfl (by kernel_rfl) (by decide) (by decide) (fun K hK => ?_) (fun K hK => ?_)
        ·
         skip
         have hrl : Row Y0 77 6 (.slice sa2 T2.ss.length sc2) T2.ss.length (T2.ss.flatMap sc) T2.os:=by have h:=(C12.out.below HBY0.out).tb.v.rs;rw [HSV2.out] at h;exact h
         obtain ⟨v8,Y0_5,ob8,hrun,hrow,hob,hfr⟩:=app_row (P:=Try.prog) Y0 29 29 77 6 48 Try.underlying29 (by kernel_rfl) (by omega) (by omega) (.slice (some ⟨V4.heap.size,0,none⟩) 0 0) (.slice sa2 i sc2) 0 i [] ((T2.ss.flatMap sc).take (i * 6)) none T2.os (row_nil _ _ _ _) (row_take hrl hkp) (by omega) (fun x hx => sc_one T2.ss x (List.mem_of_mem_take hx))
         refine value_ (w1:=Y0_5) (v:=v8) (by rfl) rfl ?_ ?_
         ·
          exact run_append_op (.tmp 110) (.tmp 114) 29 29 rfl _ _ rfl rfl hrun
         have HBY0_5:=Aside0.mk (below_then HBY0.out HBY0.out.size (fr_none hfr))
         rw [Nat.zero_add,List.nil_append] at hrow
         have HRY0_5:=Aside0.mk hrow
         have HO8:=Aside0.mk (show ∀ k_,ob8 = some k_ → V4.heap.size ≤ k_ from fun k_ hk_ => by rcases hob with h|h;(rw [h] at hk_;cases hk_);(have h1:=h k_ hk_;have h2:=HBY0.out.size;omega))
         clear hrl hrun hrow hob hfr hHeld
         refine hK.out _ _ ⟨(HSF.out Y0_5 HBY0_5.out).1,(HSF.out Y0_5 HBY0_5.out).2.1,(HSF.out Y0_5 HBY0_5.out).2.2.1,(HSF.out Y0_5 HBY0_5.out).2.2.2.1,(HSF.out Y0_5 HBY0_5.out).2.2.2.2.1,(HSF.out Y0_5 HBY0_5.out).2.2.2.2.2.1,(HSF.out Y0_5 HBY0_5.out).2.2.2.2.2.2⟩ (fun hHeld => ?_)
         clear hK K
         refine mq ?_
         refine nq 7 (some 117) fun K hK => ?_
         refine vq ?_
         have hb_:=below_alloc (Below.refl Y0_5.heap.size Y0_5) (.cells #[.int .i64 r.f0,.int .i64 r.f1,.int .i64 a.f0,.int .i64 a.f1,.int .i64 a.f2,.int .i64 a.f3] 77 (0,0))
         have HBY0_5_7:=Aside0.mk (below_then HBY0_5.out HBY0_5.out.size hb_)
         have HGY0_5_7:=Aside0.mk (heap_alloc_new Y0_5 (.cells #[.int .i64 r.f0,.int .i64 r.f1,.int .i64 a.f0,.int .i64 a.f1,.int .i64 a.f2,.int .i64 a.f3] 77 (0,0)))
         have HRY0_5_7:=Aside0.mk (HRY0_5.out.kept (fun b_ hb2_ => hb_.block b_ (HRY0_5.out.lt b_ hb2_)))
         clear hb_ hHeld
         generalize Y0_5.alloc _ = Y0_5_7 at HBY0_5_7 HGY0_5_7 HRY0_5_7 ⊢
         refine hK.out _ _ ⟨(HSF.out Y0_5_7 HBY0_5_7.out).1,(HSF.out Y0_5_7 HBY0_5_7.out).2.1,(HSF.out Y0_5_7 HBY0_5_7.out).2.2.1,(HSF.out Y0_5_7 HBY0_5_7.out).2.2.2.1,(HSF.out Y0_5_7 HBY0_5_7.out).2.2.2.2.1,(HSF.out Y0_5_7 HBY0_5_7.out).2.2.2.2.2.1,(HSF.out Y0_5_7 HBY0_5_7.out).2.2.2.2.2.2⟩ (fun hHeld => ?_)
         clear hK K
         refine mq ?_
         exact norm_ (by simp only [putAll,Act.put,List.setIfInBounds_toArray,List.set_cons_zero,List.set_cons_succ]) (hCont (.slice (some ⟨V4.heap.size,0,none⟩) 0 0,v8,Y0_5.heap.size) _ ⟨HBY0_5_7.out,⟨ob8,HRY0_5_7.out,HO8.out⟩,HGY0_5_7.out,HBY0_5.out.size⟩)
        ·
         skip
         refine vq ?_
         have hb_:=below_alloc (Below.refl Y0.heap.size Y0) (.cells #[.int .i64 r.f0,.int .i64 r.f1,.int .i64 a.f0,.int .i64 a.f1,.int .i64 a.f2,.int .i64 a.f3] 77 (0,0))
         have HBY0_7:=Aside0.mk (below_then HBY0.out HBY0.out.size hb_)
         have HGY0_7:=Aside0.mk (heap_alloc_new Y0 (.cells #[.int .i64 r.f0,.int .i64 r.f1,.int .i64 a.f0,.int .i64 a.f1,.int .i64 a.f2,.int .i64 a.f3] 77 (0,0)))
         clear hb_ hHeld
         generalize Y0.alloc _ = Y0_7 at HBY0_7 HGY0_7 ⊢
         refine hK.out _ _ ⟨(HSF.out Y0_7 HBY0_7.out).1,(HSF.out Y0_7 HBY0_7.out).2.1,(HSF.out Y0_7 HBY0_7.out).2.2.1,(HSF.out Y0_7 HBY0_7.out).2.2.2.1,(HSF.out Y0_7 HBY0_7.out).2.2.2.2.1,(HSF.out Y0_7 HBY0_7.out).2.2.2.2.2.1,(HSF.out Y0_7 HBY0_7.out).2.2.2.2.2.2⟩ (fun hHeld => ?_)
         clear hK K
         refine mq ?_
         refine nq 5 (some 115) fun K hK => ?_
         have hrl : Row Y0_7 77 6 (.slice sa2 T2.ss.length sc2) T2.ss.length (T2.ss.flatMap sc) T2.os:=by have h:=(C12.out.below HBY0_7.out).tb.v.rs;rw [HSV2.out] at h;exact h
         obtain ⟨v8,Y0_7_5,ob8,hrun,hrow,hob,hfr⟩:=app_row (P:=Try.prog) Y0_7 29 29 77 6 48 Try.underlying29 (by kernel_rfl) (by omega) (by omega) (.slice (some ⟨V4.heap.size,0,none⟩) 0 0) (.slice sa2 i sc2) 0 i [] ((T2.ss.flatMap sc).take (i * 6)) none T2.os (row_nil _ _ _ _) (row_take hrl hkp) (by omega) (fun x hx => sc_one T2.ss x (List.mem_of_mem_take hx))
         refine value_ (w1:=Y0_7_5) (v:=v8) (by rfl) rfl ?_ ?_
         ·
          exact run_append_op (.tmp 110) (.tmp 114) 29 29 rfl _ _ rfl rfl hrun
         have HBY0_7_5:=Aside0.mk (below_then HBY0_7.out HBY0_7.out.size (fr_none hfr))
         rw [Nat.zero_add,List.nil_append] at hrow
         have HRY0_7_5:=Aside0.mk hrow
         have HO8:=Aside0.mk (show ∀ k_,ob8 = some k_ → V4.heap.size ≤ k_ from fun k_ hk_ => by rcases hob with h|h;(rw [h] at hk_;cases hk_);(have h1:=h k_ hk_;have h2:=HBY0_7.out.size;omega))
         have HGY0_7_5:=Aside0.mk (((fr_none hfr).block _ (blk_lt HGY0_7.out)).trans HGY0_7.out)
         clear hrl hrun hrow hob hfr hHeld
         refine hK.out _ _ ⟨(HSF.out Y0_7_5 HBY0_7_5.out).1,(HSF.out Y0_7_5 HBY0_7_5.out).2.1,(HSF.out Y0_7_5 HBY0_7_5.out).2.2.1,(HSF.out Y0_7_5 HBY0_7_5.out).2.2.2.1,(HSF.out Y0_7_5 HBY0_7_5.out).2.2.2.2.1,(HSF.out Y0_7_5 HBY0_7_5.out).2.2.2.2.2.1,(HSF.out Y0_7_5 HBY0_7_5.out).2.2.2.2.2.2⟩ (fun hHeld => ?_)
         clear hK K
         refine mq ?_
         exact norm_ (by simp only [putAll,Act.put,List.setIfInBounds_toArray,List.set_cons_zero,List.set_cons_succ]) (hCont (.slice (some ⟨V4.heap.size,0,none⟩) 0 0,v8,Y0.heap.size) _ ⟨HBY0_7_5.out,⟨ob8,HRY0_7_5.out,HO8.out⟩,HGY0_7_5.out,HBY0.out.size⟩)
       ·
        skip
        refine vq ?_
        have hb_:=below_alloc (Below.refl V4.heap.size V4) (.cells #[.int .i64 r.f0,.int .i64 r.f1,.int .i64 a.f0,.int .i64 a.f1,.int .i64 a.f2,.int .i64 a.f3] 77 (0,0))
        have HBY7:=Aside0.mk (below_then HBV4.out HBV4.out.size hb_)
        have HGY7:=Aside0.mk (heap_alloc_new V4 (.cells #[.int .i64 r.f0,.int .i64 r.f1,.int .i64 a.f0,.int .i64 a.f1,.int .i64 a.f2,.int .i64 a.f3] 77 (0,0)))
        clear hb_ hHeld
        generalize V4.alloc _ = Y7 at HBY7 HGY7 ⊢
        refine hK.out _ _ ⟨(HSF.out Y7 HBY7.out).1,(HSF.out Y7 HBY7.out).2.1,(HSF.out Y7 HBY7.out).2.2.1,(HSF.out Y7 HBY7.out).2.2.2.1,(HSF.out Y7 HBY7.out).2.2.2.2.1,(HSF.out Y7 HBY7.out).2.2.2.2.2.1,(HSF.out Y7 HBY7.out).2.2.2.2.2.2⟩ (fun hHeld => ?_)
        clear hK K
        refine mq ?_
        refine nq 0 (some 110) fun K hK => ?_
        refine vq ?_
        have hb_:=below_alloc (Below.refl Y7.heap.size Y7) (.cells #[] 77 (0,0))
        have HBY7_0:=Aside0.mk (below_then HBY7.out HBY7.out.size hb_)
        have HGY7_0:=Aside0.mk ((hb_.block _ (blk_lt HGY7.out)).trans HGY7.out)
        clear hb_ hHeld
        generalize Y7.alloc _ = Y7_0 at HBY7_0 HGY7_0 ⊢
        refine hK.out _ _ ⟨(HSF.out Y7_0 HBY7_0.out).1,(HSF.out Y7_0 HBY7_0.out).2.1,(HSF.out Y7_0 HBY7_0.out).2.2.1,(HSF.out Y7_0 HBY7_0.out).2.2.2.1,(HSF.out Y7_0 HBY7_0.out).2.2.2.2.1,(HSF.out Y7_0 HBY7_0.out).2.2.2.2.2.1,(HSF.out Y7_0 HBY7_0.out).2.2.2.2.2.2⟩ (fun hHeld => ?_)
        clear hK K
        refine mq ?_
        refine nq 5 (some 115) fun K hK => ?_
        have hrl : Row Y7_0 77 6 (.slice sa2 T2.ss.length sc2) T2.ss.length (T2.ss.flatMap sc) T2.os:=by have h:=(C12.out.below HBY7_0.out).tb.v.rs;rw [HSV2.out] at h;exact h
        obtain ⟨v8,Y7_0_5,ob8,hrun,hrow,hob,hfr⟩:=app_row (P:=Try.prog) Y7_0 29 29 77 6 48 Try.underlying29 (by kernel_rfl) (by omega) (by omega) (.slice (some ⟨Y7.heap.size,0,none⟩) 0 0) (.slice sa2 i sc2) 0 i [] ((T2.ss.flatMap sc).take (i * 6)) none T2.os (row_nil _ _ _ _) (row_take hrl hkp) (by omega) (fun x hx => sc_one T2.ss x (List.mem_of_mem_take hx))
        refine value_ (w1:=Y7_0_5) (v:=v8) (by rfl) rfl ?_ ?_
        ·
         exact run_append_op (.tmp 110) (.tmp 114) 29 29 rfl _ _ rfl rfl hrun
        have HBY7_0_5:=Aside0.mk (below_then HBY7_0.out HBY7_0.out.size (fr_none hfr))
        rw [Nat.zero_add,List.nil_append] at hrow
        have HRY7_0_5:=Aside0.mk hrow
        have HO8:=Aside0.mk (show ∀ k_,ob8 = some k_ → V4.heap.size ≤ k_ from fun k_ hk_ => by rcases hob with h|h;(rw [h] at hk_;cases hk_);(have h1:=h k_ hk_;have h2:=HBY7_0.out.size;omega))
        have HGY7_0_5:=Aside0.mk (((fr_none hfr).block _ (blk_lt HGY7_0.out)).trans HGY7_0.out)
        clear hrl hrun hrow hob hfr hHeld
        refine hK.out _ _ ⟨(HSF.out Y7_0_5 HBY7_0_5.out).1,(HSF.out Y7_0_5 HBY7_0_5.out).2.1,(HSF.out Y7_0_5 HBY7_0_5.out).2.2.1,(HSF.out Y7_0_5 HBY7_0_5.out).2.2.2.1,(HSF.out Y7_0_5 HBY7_0_5.out).2.2.2.2.1,(HSF.out Y7_0_5 HBY7_0_5.out).2.2.2.2.2.1,(HSF.out Y7_0_5 HBY7_0_5.out).2.2.2.2.2.2⟩ (fun hHeld => ?_)
        clear hK K
        refine mq ?_
        exact norm_ (by simp only [putAll,Act.put,List.setIfInBounds_toArray,List.set_cons_zero,List.set_cons_succ]) (hCont (.slice (some ⟨Y7.heap.size,0,none⟩) 0 0,v8,V4.heap.size) _ ⟨HBY7_0_5.out,⟨ob8,HRY7_0_5.out,HO8.out⟩,HGY7_0_5.out,HBV4.out.size⟩)
      rintro ⟨e1_,v8,m10⟩ V5x ⟨hb5,⟨ob8,hr8,ho8⟩,hg10,hm10⟩
      have HBV5:=Aside0.mk hb5
      have HR8:=Aside0.mk hr8
      have HO8:=Aside0.mk ho8
      have HG10:=Aside0.mk hg10
      have HM10:=Aside0.mk hm10
      clear hb5 hr8 ho8 hg10 hm10
      have hHeld:=HSF.out V5x HBV5.out
      refine mq ?_
      refine nq 8 (some 118) fun K hK => ?_
      obtain ⟨v11,V6,ob11,hrun,hrow,hob,hfr⟩:=app_row (P:=Try.prog) V5x 29 29 77 6 48 Try.underlying29 (by kernel_rfl) (by omega) (by omega) v8 (.slice (some ⟨m10,0,none⟩) 1 1) i 1 ((T2.ss.flatMap sc).take (i * 6)) (sc ⟨r.f0,r.f1,a⟩) ob8 (some m10) HR8.out (row_one HG10.out rfl) (by omega) (sc_oneB _)
      refine value_ (w1:=V6) (v:=v11) (by rfl) rfl ?_ ?_
      ·
       exact run_append_op (.tmp 115) (.tmp 117) 29 29 rfl _ _ rfl rfl hrun
      have HBV6:=Aside0.mk (HBV5.out.trans (hfr.to_below HBV5.out.size (fun x hx => HO8.out x hx)))
      have HR11:=Aside0.mk hrow
      have HO11:=Aside0.mk (show ∀ k_,ob11 = some k_ → V4.heap.size ≤ k_ from fun k_ hk_ => by rcases hob with h|h;(exact HO8.out k_ (h ▸ hk_));(have h1:=h k_ hk_;have h2:=HBV5.out.size;omega))
      clear hrun hrow hob hfr hHeld
      refine hK.out _ _ ⟨(HSF.out V6 HBV6.out).1,(HSF.out V6 HBV6.out).2.1,(HSF.out V6 HBV6.out).2.2.1,(HSF.out V6 HBV6.out).2.2.2.1,(HSF.out V6 HBV6.out).2.2.2.2.1,(HSF.out V6 HBV6.out).2.2.2.2.2.1,(HSF.out V6 HBV6.out).2.2.2.2.2.2⟩ (fun hHeld => ?_)
      clear hK K
      refine mq ?_
      refine nq 13 (some 123) fun K hK => ?_
      have hrl : Row V6 77 6 (.slice sa2 T2.ss.length sc2) T2.ss.length (T2.ss.flatMap sc) T2.os:=by have h:=(C12.out.below HBV6.out).tb.v.rs;rw [HSV2.out] at h;exact h
      have hdr:=row_dropA hrl hkp
      obtain ⟨v18,V7,ob18,hrun,hrow,hob,hfr⟩:=app_row (P:=Try.prog) V6 29 29 77 6 48 Try.underlying29 (by kernel_rfl) (by omega) (by omega) v11 (.slice (if sc2 = i then sa2 else Option.map (fun x => x.add (i * 6)) sa2) (T2.ss.length - i) (sc2 - i)) (i + 1) (T2.ss.length - i) _ _ ob11 _ HR11.out hdr (by omega) (fun x hx => sc_one T2.ss x (List.mem_of_mem_drop hx))
      obtain ⟨va,vc,rfl⟩:=hrow.slice
      refine value_ (w1:=V7) (v:=.slice va (i + 1 + (T2.ss.length - i)) vc) (by rfl) rfl ?_ ?_
      ·
       exact run_append_op (.tmp 118) (.tmp 122) 29 29 rfl _ _ rfl rfl hrun
      have HBV7:=Aside0.mk (HBV6.out.trans (hfr.to_below HBV6.out.size (fun x hx => HO11.out x hx)))
      have HR18:=Aside0.mk hrow
      have HO18:=Aside0.mk (show ∀ k_,ob18 = some k_ → V4.heap.size ≤ k_ from fun k_ hk_ => by rcases hob with h|h;(exact HO11.out k_ (h ▸ hk_));(have h1:=h k_ hk_;have h2:=HBV6.out.size;omega))
      clear hrun hrow hob hfr hHeld hrl hdr
      obtain ⟨-,-,-,y3,-,-,-,z3_⟩:=(C12.out.below HBV7.out).tb.cells
      rw [HSV2.out] at y3
      refine hK.out _ _ ⟨(HSF.out V7 HBV7.out).1,(HSF.out V7 HBV7.out).2.1,(HSF.out V7 HBV7.out).2.2.1,(HSF.out V7 HBV7.out).2.2.2.1,(HSF.out V7 HBV7.out).2.2.2.2.1,(HSF.out V7 HBV7.out).2.2.2.2.2.1,(HSF.out V7 HBV7.out).2.2.2.2.2.2⟩ (fun hHeld => ?_)
      clear hK K
      refine mq ?_
      refine pq 14 (some 124) ?_
      refine lq 15 none fun K hK => ?_
      refine sq ?_
      refine hK.out _ _ ?_
      clear hK K
      refine done_ (by kernel_rfl) ?_
      (try clear hHeld)
      obtain ⟨nw,hnw⟩ : ∃ nw : List IN,nw = T2.ss.take i ++ (⟨r.f0,r.f1,a⟩ : IN) :: T2.ss.drop i:=⟨_,rfl⟩
      have hN : i + 1 + (T2.ss.length - i) = nw.length:=by rw [hnw,List.length_append,List.length_cons,List.length_take,List.length_drop];omega
      have hrw : Row V7 77 6 (.slice va nw.length vc) nw.length (nw.flatMap sc) ob18:=by
       have h:=HR18.out
       rw [hN,(flat_take (f:=sc) (sz:=6) (fun x => rfl) T2.ss i).1,(flat_take (f:=sc) (sz:=6) (fun x => rfl) T2.ss i).2] at h
       rw [hnw,sc_mid]
       simp only [List.append_assoc] at h
       rw [hnw] at h
       exact h
      have hS:=St.seens (St.refl C12.out.tb) nw (.slice va nw.length vc) ob18 (Fr.of_below HBV7.out) hrw (.inr HO18.out)
      rw [hN]
      have C14:=Aside0.mk (C12.out.step hS)
      have HGA4:=Aside0.mk ((St.keep hS HGA2.out HNA.out).1)
      generalize V7.setCell ⟨g,3,none⟩ (.slice va nw.length vc) = W14 at C14 HGA4 ⊢
      obtain ⟨T3,hT3⟩ : ∃ T3 : Tv,T3 = { T2 with ss:=nw,vs:=.slice va nw.length vc,os:=ob18 }:=⟨_,rfl⟩
      rw [← hT3] at C14
      have HT3:=Aside0.mk hT3
      have HNWS:=Aside0.mk hnw
      clear hS hT3 hrw hN hkp hl2 hlc hic y3 z3_ hnw
      (try generalize (Value.slice (if sc2 = i then sa2 else Option.map (fun x => x.add (i * 6)) sa2) (T2.ss.length - i) (sc2 - i)) = vdr_)
      go_upto_region 17 with fail
      have C17:=Aside0.mk (C14.out.below (below_drew (Below.refl _ _)))
      have HGA5:=Aside0.mk (show W14.drew.heap[na]? = some (anO a) from HGA4.out)
      obtain ⟨la2,lc2,hlv2⟩:=C17.out.tb.v.rl.slice
      obtain ⟨sa2,sc2,hsv2⟩:=C17.out.tb.v.rs.slice
      have HL2:=Aside0.mk hlv2
      have HV2:=Aside0.mk hsv2
      obtain ⟨y0,y1,y2,y3,-,-,-,-⟩:=C17.out.tb.cells
      rw [hlv2] at y2
      rw [hsv2] at y3
      obtain ⟨a0,a1,a2,a3⟩:=an_cells HGA5.out
      clear hlv2 hsv2
      refine start_ (n:=4) (S:=fun w' => w'.cell? ⟨g,0,none⟩ = some (.int .i64 T3.tm) ∧ w'.cell? ⟨g,1,none⟩ = some (.int .i64 T3.nx) ∧ w'.cell? ⟨g,2,none⟩ = some (.slice la2 T3.ls.length lc2) ∧ w'.cell? ⟨g,3,none⟩ = some (.slice sa2 T3.ss.length sc2) ∧ w'.cell? ⟨na,0,none⟩ = some (.int .i64 a.f0) ∧ w'.cell? ⟨na,1,none⟩ = some (.int .i64 a.f1) ∧ w'.cell? ⟨na,2,none⟩ = some (.int .i64 a.f2) ∧ w'.cell? ⟨na,3,none⟩ = some (.int .i64 a.f3)) (ds:=[3]) #[false,false,false,false] (by kernel_rfl) rfl rfl ⟨y0,y1,y2,y3,a0,a1,a2,a3⟩ (fun hHeld => ?_)
      clear y0 y1 y2 y3 a0 a1 a2 a3
      generalize W14.drew = V17 at C17 HGA5 hHeld ⊢
      obtain ⟨n0,n1,n2,n3,m0,m1,m2,m3⟩:=box_facts C17.out.rt
      obtain ⟨o0,o1,o2,o3,b0,b1,b2,b3⟩:=box_facts C17.out.ra
      refine tq 0 (some 125) hHeld ?_
      refine tq 1 (some 126) hHeld ?_
      refine nq 2 none fun K hK => ?_
      refine sq ?_
      have hfr2:=C17.out.fr
      have hQ:=C17.out.setT
      rw [HL2.out,HV2.out] at hQ hfr2
      have HQ2:=Aside0.mk hQ
      have hga2:=hfr2.blk HGA5.out (fun e => by have:=HNA2.out;omega)
      clear hQ hfr2 hHeld n0 n1 n2 n3 m0 m1 m2 m3 o0 o1 o2 o3 b0 b1 b2 b3
      obtain ⟨V18,hV7⟩ : ∃ V18,V18 = w4 V17 (w.heap.size + 2) (.int .i64 T3.tm) (.int .i64 T3.nx) (.slice la2 T3.ls.length lc2) (.slice sa2 T3.ss.length sc2):=⟨_,rfl⟩
      rw [← hV7] at HQ2 hga2
      unfold w4 at hV7
      rw [← hV7]
      clear hV7
      obtain ⟨y0,y1,y2,y3,-,-,-,-⟩:=HQ2.out.tb.cells
      rw [HL2.out] at y2
      rw [HV2.out] at y3
      obtain ⟨o0,o1,o2,o3,b0,b1,b2,b3⟩:=box_facts HQ2.out.ra
      obtain ⟨a0,a1,a2,a3⟩:=an_cells hga2
      refine hK.out _ _ ⟨y0,y1,y2,y3,a0,a1,a2,a3⟩ (fun hHeld => ?_)
      clear hK K
      refine lq 3 none fun K hK => ?_
      refine sq ?_
      refine hK.out _ _ ?_
      clear hK K
      refine done_ (by kernel_rfl) ?_
      (try clear hHeld)
      go_wp2_with fail
      have hA:=HQ2.out.setA a
      rw [HL2.out,HV2.out] at hA
      refine bodyPost_ret (results_two rfl _ _ (w.heap.size + 2) 31 _ (0,0) _ (w.heap.size + 3) 75 _ (0,0) _ rfl rfl hA.2.1 hA.2.2.1 Try.underlying31 rfl (by kernel_rfl) Try.underlying75 rfl (by kernel_rfl)) rfl ?_
      exact HQ2.out.out a (by rw [HQ0.out,reqY_new HK.out HTH.out HNF.out HD.out,HT3.out];show ((⟨T2.tm,T2.nx,T2.ls.map EL.x,nw⟩ : Tp),a) = _;rw [HNWS.out,HT1.out,HT2.out];rfl) (by unfold tvV anV;rw [HL2.out,HV2.out])
  ·
   obtain rfl : i = k:=by omega
   have hip : i = T1.ss.length:=by omega
   have p2 : decide ((i : Int) < (T1.ss.length : Int)) = false:=decide_eq_false (by omega)
   have HTH:=Aside0.mk (show false = thereS r.f0 T1.ss by
    unfold thereS
    rw [← HK.out,hip]
    simp)
   clear r0
   refine start_ (n:=16) (S:=fun w' => w'.cell? ⟨g,3,none⟩ = some (.slice sa T1.ss.length scap)) (ds:=[]) #[false,false,false,false,false,false,false,false,false,false,false,false,false,false,false,false] (by kernel_rfl) rfl rfl (y3) (fun hHeld => ?_)
   clear y3
   generalize wi.drew = V2 at C2 hHeld ⊢
   refine pq 0 (some 16) ?_
   refine pq 1 (some 17) ?_
   refine tq 2 (some 18) hHeld ?_
   refine pq 3 (some 19) ?_
   refine pq 4 (some 20) ?_
   refine pq 5 (some 21) ?_
   refine oq 6 (some 22) ?_
   refine oq 7 (some 23) ?_
   refine oq 8 (some 24) ?_
   refine oq 9 (some 25) ?_
   refine oq 10 (some 26) ?_
   refine oq 11 (some 27) ?_
   refine oq 12 (some 28) ?_
   refine oq 13 (some 29) ?_
   refine oq 14 (some 30) ?_
   refine pq 15 (some 31) ?_
   refine done_ (by kernel_rfl) ?_
   clear hHeld hip
   go_upto_region 5 with fail
   have C3:=Aside0.mk (C2.out.below (below_drew (Below.refl _ _)))
   have y3:=C3.out.tb.cells.2.2.2.1
   rw [HSV.out] at y3
   refine start_ (n:=17) (S:=fun w' => w'.cell? ⟨g,3,none⟩ = some (.slice sa T1.ss.length scap)) (ds:=[]) #[false,false,false,false,false,false,false,false,false,false,false,false,false,false,false,false,false] (by kernel_rfl) rfl rfl (y3) (fun hHeld => ?_)
   clear y3
   generalize V2.drew = V3 at C3 hHeld ⊢
   refine pq 0 (some 34) ?_
   refine pq 1 (some 35) ?_
   refine tq 2 (some 36) hHeld ?_
   refine pq 3 (some 37) ?_
   refine pq 4 (some 38) ?_
   refine pq 5 (some 39) ?_
   refine oq 6 (some 40) ?_
   refine oq 7 (some 41) ?_
   refine oq 8 (some 42) ?_
   refine oq 9 (some 43) ?_
   refine oq 10 (some 44) ?_
   refine oq 11 (some 45) ?_
   refine oq 12 (some 46) ?_
   refine oq 13 (some 47) ?_
   refine oq 14 (some 48) ?_
   refine pq 15 (some 49) ?_
   refine pq 16 (some 10) ?_
   refine done_ (by kernel_rfl) ?_
   clear hHeld
   go_upto_region 6 with fail
   have C4:=Aside0.mk (C3.out.below (below_drew (Below.refl _ _)))
   refine start_ (n:=13) (S:=fun w' => True) (ds:=[]) #[false,false,false,false,false,false,false,false,false,false,false,false,false] (by kernel_rfl) rfl rfl trivial (fun hHeld => ?_)
   generalize V3.drew = V4 at C4 hHeld ⊢
   refine pq 0 (some 51) ?_
   refine pq 1 (some 52) ?_
   refine oq 2 (some 53) ?_
   refine oq 3 (some 54) ?_
   refine oq 4 (some 55) ?_
   refine oq 5 (some 56) ?_
   refine oq 6 (some 57) ?_
   refine oq 7 (some 58) ?_
   refine oq 8 (some 59) ?_
   refine oq 9 (some 60) ?_
   refine oq 10 (some 61) ?_
   refine pq 11 (some 62) ?_
   refine pq 12 (some 50) ?_
   refine done_ (by kernel_rfl) ?_
   clear hHeld
   go_upto_region 8 with fail
   have C5:=Aside0.mk (C4.out.below (below_drew (Below.refl _ _)))
   refine start_ (n:=13) (S:=fun w' => True) (ds:=[]) #[false,false,false,false,false,false,false,false,false,false,false,false,false] (by kernel_rfl) rfl rfl trivial (fun hHeld => ?_)
   generalize V4.drew = V5 at C5 hHeld ⊢
   refine pq 0 (some 71) ?_
   refine pq 1 (some 72) ?_
   refine oq 2 (some 73) ?_
   refine oq 3 (some 74) ?_
   refine oq 4 (some 75) ?_
   refine oq 5 (some 76) ?_
   refine oq 6 (some 77) ?_
   refine oq 7 (some 78) ?_
   refine oq 8 (some 79) ?_
   refine oq 9 (some 80) ?_
   refine oq 10 (some 81) ?_
   refine pq 11 (some 82) ?_
   refine pq 12 (some 70) ?_
   refine done_ (by kernel_rfl) ?_
   clear hHeld
   have y3:=C5.out.tb.cells.2.2.2.1
   rw [HSV.out] at y3
   by_cases hl6 : T1.ss.length = 6
   ·
    have q1 : ((T1.ss.length : Int) == 6) = true:=by rw [hl6];rfl
    have HQ:=Aside0.mk (HQ0.out.trans (reqY_full HTH.out hl6))
    clear hl6 y3
    obtain ⟨la2,lc2,hlv2⟩:=C5.out.tb.v.rl.slice
    obtain ⟨sa2,sc2,hsv2⟩:=C5.out.tb.v.rs.slice
    obtain ⟨y0,y1,y2,y3,-,-,-,-⟩:=C5.out.tb.cells
    rw [hlv2] at y2
    rw [hsv2] at y3
    have HL2:=Aside0.mk hlv2
    have HV2:=Aside0.mk hsv2
    obtain ⟨n0,n1,n2,n3,m0,m1,m2,m3⟩:=box_facts C5.out.rt
    obtain ⟨a0,a1,a2,a3,b0,b1,b2,b3⟩:=box_facts C5.out.ra
    clear hlv2 hsv2
    go_wp2_with fail
    have hQ:=C5.out.setT
    rw [HL2.out,HV2.out] at hQ
    have hA:=hQ.setA ⟨6,0,-1,0⟩
    rw [HL2.out,HV2.out] at hA
    refine bodyPost_ret (results_two rfl _ _ (w.heap.size + 2) 31 _ (0,0) _ (w.heap.size + 3) 75 _ (0,0) _ rfl rfl hA.2.1 hA.2.2.1 Try.underlying31 rfl (by kernel_rfl) Try.underlying75 rfl (by kernel_rfl)) rfl ?_
    exact hQ.out ⟨6,0,-1,0⟩ (HQ.out.symm) (by unfold tvV anV;rw [HL2.out,HV2.out])
   ·
    have q1 : ((T1.ss.length : Int) == 6) = false:=by simp;omega
    have HNF:=Aside0.mk hl6
    clear hl6
    obtain ⟨r0,r1,r2,r3,r4⟩:=C5.out.rqs
    go_wp2_with fail
    have hq:=sdo_calls g _ T1 r C5.out.tb (show 0 ≤ T1.tm ∧ T1.tm ≤ 1000000000 from HG1.out.tm) (by have h1 : 1 ≤ T1.nx ∧ T1.nx ≤ N + 4:=HG1.out.nx;have:=HN.out;omega) (by have h1 : (T1.ls.map EL.x).length ≤ 4:=HG1.out.l4;rw [List.length_map] at h1;exact h1) HG1.out.sl (fun e he => HG1.out.gl e.x (List.mem_map_of_mem he)) HR.out.c.1 HR.out.l
    unfold rqV at hq
    with_reducible refine hq.mono ?_
    clear hq
    rintro _ W9 ⟨a,T2,rfl,ht1,ht2,ht3,hst⟩
    have C9:=Aside0.mk (C5.out.step hst)
    have HD:=Aside0.mk ht3
    have HT1:=Aside0.mk ht1
    have HT2:=Aside0.mk ht2
    clear hst ht1 ht2 ht3 r0 r1 r2 r3 r4
    unfold anV
    go_upto_region 13 with fail
    change Code.wp _ _ _ _ (W9.alloc (anO a))
    have C10:=Aside0.mk (C9.out.below (below_alloc (Below.refl _ _) (anO a)))
    have hna:=new_nb C9.out.tb
    have hga:=heap_alloc_new W9 (anO a)
    have HNW2:=Aside0.mk (show w.heap.size + 3 < W9.heap.size from blk_lt C9.out.ra)
    generalize W9.alloc (anO a) = W10 at C10 hga ⊢
    generalize W9.heap.size = na at hna hga HNW2 ⊢
    have HNA:=Aside0.mk hna
    have HNA2:=HNW2
    have HGA:=Aside0.mk hga
    obtain ⟨a0,a1,a2,a3⟩:=an_cells hga
    obtain ⟨r0,r1,-,-,-⟩:=C10.out.rqs
    clear hna hga
    go_upto_region 14 with fail
    clear a0 a1 a2 a3 r0 r1
    change Code.wp _ _ _ _ (W10.alloc (snO ⟨r.f0,r.f1,a⟩))
    have hb11:=below_alloc (Below.refl W10.heap.size W10) (snO ⟨r.f0,r.f1,a⟩)
    have C11:=Aside0.mk (C10.out.below hb11)
    have HGA1:=Aside0.mk ((hb11.block na (blk_lt HGA.out)).trans HGA.out)
    have hns:=new_nb C10.out.tb
    have hgs:=heap_alloc_new W10 (snO ⟨r.f0,r.f1,a⟩)
    generalize W10.alloc (snO ⟨r.f0,r.f1,a⟩) = W11 at C11 HGA1 hgs ⊢
    generalize W10.heap.size = ns at hns hgs ⊢
    have HNS:=Aside0.mk hns
    have HGS:=Aside0.mk hgs
    clear hns hgs hb11
    clear q1 y3
    have HKP:=Aside0.mk (show i ≤ T2.ss.length by rw [HT2.out];exact HPL.out)
    have HL2x:=Aside0.mk (show T2.ss.length ≤ 6 by rw [HT2.out];exact HL6.out)
    obtain ⟨sa2,sc2,hsv2⟩:=C11.out.tb.v.rs.slice
    have HSV2:=Aside0.mk hsv2
    clear hsv2
    go_upto_region 16 with fail
    have C12:=Aside0.mk (C11.out.below (below_drew (Below.refl _ _)))
    have HGS2:=Aside0.mk (show W11.drew.heap[ns]? = some (snO ⟨r.f0,r.f1,a⟩) from HGS.out)
    have HGA2:=Aside0.mk (show W11.drew.heap[na]? = some (anO a) from HGA1.out)
    have y3:=C12.out.tb.cells.2.2.2.1
    rw [HSV2.out] at y3
    obtain ⟨s0,s1,s2,s3,s4,s5⟩:=sn_cells HGS2.out
    have hkp : i ≤ T2.ss.length:=HKP.out
    have hl2 : T2.ss.length ≤ 6:=HL2x.out
    have hlc : T2.ss.length ≤ sc2:=by
     obtain ⟨_,_,hv,h,_⟩:=C12.out.tb.v.rs
     rw [HSV2.out] at hv
     injection hv with _ _ h3
     rw [h3];exact h
    have hic : i ≤ sc2:=by omega
    refine start_ (n:=16) (S:=fun w' => w'.cell? ⟨g,3,none⟩ = some (.slice sa2 T2.ss.length sc2) ∧ w'.cell? ⟨ns,0,none⟩ = some (.int .i64 r.f0) ∧ w'.cell? ⟨ns,1,none⟩ = some (.int .i64 r.f1) ∧ w'.cell? ⟨ns,2,none⟩ = some (.int .i64 a.f0) ∧ w'.cell? ⟨ns,3,none⟩ = some (.int .i64 a.f1) ∧ w'.cell? ⟨ns,4,none⟩ = some (.int .i64 a.f2) ∧ w'.cell? ⟨ns,5,none⟩ = some (.int .i64 a.f3)) (ds:=[15]) #[false,false,false,false,false,false,false,false,false,false,false,false,false,false,false,false] (by kernel_rfl) rfl rfl ⟨y3,s0,s1,s2,s3,s4,s5⟩ (fun hHeld => ?_)
    clear y3 s0 s1 s2 s3 s4 s5
    generalize W11.drew = V4 at C12 HGS2 HGA2 hHeld ⊢
    have HSF : Aside0 (∀ W_ : World,Below V4.heap.size V4 W_ → (W_.cell? ⟨g,3,none⟩ = some (.slice sa2 T2.ss.length sc2) ∧ W_.cell? ⟨ns,0,none⟩ = some (.int .i64 r.f0) ∧ W_.cell? ⟨ns,1,none⟩ = some (.int .i64 r.f1) ∧ W_.cell? ⟨ns,2,none⟩ = some (.int .i64 a.f0) ∧ W_.cell? ⟨ns,3,none⟩ = some (.int .i64 a.f1) ∧ W_.cell? ⟨ns,4,none⟩ = some (.int .i64 a.f2) ∧ W_.cell? ⟨ns,5,none⟩ = some (.int .i64 a.f3))):=⟨fun W_ hb_ => by have y3_:=(C12.out.below hb_).tb.cells.2.2.2.1;rw [HSV2.out] at y3_;have g_:=(hb_.block _ (blk_lt HGS2.out)).trans HGS2.out;obtain ⟨s0,s1,s2,s3,s4,s5⟩:=sn_cells g_;exact ⟨y3_,s0,s1,s2,s3,s4,s5⟩⟩
    have HBV4:=Aside0.mk (Below.refl V4.heap.size V4)
    refine pq 1 (some 111) ?_
    refine pq 3 (some 113) ?_
    refine pq 9 (some 119) ?_
    refine pq 11 (some 121) ?_
    refine tq 2 (some 112) hHeld ?_
    refine pq 4 (some 114) ?_
    refine tq 6 (some 116) hHeld ?_
    refine tq 10 (some 120) hHeld ?_
    refine pq 12 (some 122) ?_
    refine join_ (σ:=Value × Value × Nat) 4 #[true,true,true,true,true,true,true,true,false,true,true,true,true,false,false,false] (fun s_ => [(110,s_.1),(115,s_.2.1),(117,.slice (some ⟨s_.2.2,0,none⟩) 1 1)]) (fun s_ w_ => Below V4.heap.size V4 w_ ∧ (∃ ob_,Row w_ 77 6 s_.2.1 i ((T2.ss.flatMap sc).take (i * 6)) ob_ ∧ ∀ k_,ob_ = some k_ → V4.heap.size ≤ k_) ∧ w_.heap[s_.2.2]? = some (.cells #[.int .i64 r.f0,.int .i64 r.f1,.int .i64 a.f0,.int .i64 a.f1,.int .i64 a.f2,.int .i64 a.f3] 77 (0,0)) ∧ V4.heap.size ≤ s_.2.2) ?_ ?_
    rotate_left
    ·
     intro hCont
     refine two_ (i:=0) (j:=7) (Ni:=some 110) (Nj:=some 117) #[true,true,true,true,true,false,true,false,false,true,true,true,true,false,false,false] #[false,true,true,true,true,false,true,true,false,true,true,true,true,false,false,false] rfl rfl rfl rfl (by kernel_rfl) (by decide) (by decide) (fun K hK => ?_) (fun K hK => ?_)
     ·
      skip
      refine vq ?_
      have hb_:=below_alloc (Below.refl V4.heap.size V4) (.cells #[] 77 (0,0))
      have HBY0:=Aside0.mk (below_then HBV4.out HBV4.out.size hb_)
      clear hb_ hHeld
      generalize V4.alloc _ = Y0 at HBY0 ⊢
      refine hK.out _ _ ⟨(HSF.out Y0 HBY0.out).1,(HSF.out Y0 HBY0.out).2.1,(HSF.out Y0 HBY0.out).2.2.1,(HSF.out Y0 HBY0.out).2.2.2.1,(HSF.out Y0 HBY0.out).2.2.2.2.1,(HSF.out Y0 HBY0.out).2.2.2.2.2.1,(HSF.out Y0 HBY0.out).2.2.2.2.2.2⟩ (fun hHeld => ?_)
      clear hK K
      refine mq ?_
      refine two_ (i:=5) (j:=7) (Ni:=some 115) (Nj:=some 117) #[true,true,true,true,true,true,true,false,false,true,true,true,true,false,false,false] #[true,true,true,true,true,false,true,true,false,true,true,true,true,false,false,false] rfl rfl rfl rfl (by kernel_rfl) (by decide) (by decide) (fun K hK => ?_) (fun K hK => ?_)
      ·
       skip
       have hrl : Row Y0 77 6 (.slice sa2 T2.ss.length sc2) T2.ss.length (T2.ss.flatMap sc) T2.os:=by have h:=(C12.out.below HBY0.out).tb.v.rs;rw [HSV2.out] at h;exact h
       obtain ⟨v8,Y0_5,ob8,hrun,hrow,hob,hfr⟩:=app_row (P:=Try.prog) Y0 29 29 77 6 48 Try.underlying29 (by kernel_rfl) (by omega) (by omega) (.slice (some ⟨V4.heap.size,0,none⟩) 0 0) (.slice sa2 i sc2) 0 i [] ((T2.ss.flatMap sc).take (i * 6)) none T2.os (row_nil _ _ _ _) (row_take hrl hkp) (by omega) (fun x hx => sc_one T2.ss x (List.mem_of_mem_take hx))
       refine value_ (w1:=Y0_5) (v:=v8) (by rfl) rfl ?_ ?_
       ·
        exact run_append_op (.tmp 110) (.tmp 114) 29 29 rfl _ _ rfl rfl hrun
       have HBY0_5:=Aside0.mk (below_then HBY0.out HBY0.out.size (fr_none hfr))
       rw [Nat.zero_add,List.nil_append] at hrow
       have HRY0_5:=Aside0.mk hrow
       have HO8:=Aside0.mk (show ∀ k_,ob8 = some k_ → V4.heap.size ≤ k_ from fun k_ hk_ => by rcases hob with h|h;(rw [h] at hk_;cases hk_);(have h1:=h k_ hk_;have h2:=HBY0.out.size;omega))
       clear hrl hrun hrow hob hfr hHeld
       refine hK.out _ _ ⟨(HSF.out Y0_5 HBY0_5.out).1,(HSF.out Y0_5 HBY0_5.out).2.1,(HSF.out Y0_5 HBY0_5.out).2.2.1,(HSF.out Y0_5 HBY0_5.out).2.2.2.1,(HSF.out Y0_5 HBY0_5.out).2.2.2.2.1,(HSF.out Y0_5 HBY0_5.out).2.2.2.2.2.1,(HSF.out Y0_5 HBY0_5.out).2.2.2.2.2.2⟩ (fun hHeld => ?_)
       clear hK K
       refine mq ?_
       refine nq 7 (some 117) fun K hK => ?_
       refine vq ?_
       have hb_:=below_alloc (Below.refl Y0_5.heap.size Y0_5) (.cells #[.int .i64 r.f0,.int .i64 r.f1,.int .i64 a.f0,.int .i64 a.f1,.int .i64 a.f2,.int .i64 a.f3] 77 (0,0))
       have HBY0_5_7:=Aside0.mk (below_then HBY0_5.out HBY0_5.out.size hb_)
       have HGY0_5_7:=Aside0.mk (heap_alloc_new Y0_5 (.cells #[.int .i64 r.f0,.int .i64 r.f1,.int .i64 a.f0,.int .i64 a.f1,.int .i64 a.f2,.int .i64 a.f3] 77 (0,0)))
       have HRY0_5_7:=Aside0.mk (HRY0_5.out.kept (fun b_ hb2_ => hb_.block b_ (HRY0_5.out.lt b_ hb2_)))
       clear hb_ hHeld
       generalize Y0_5.alloc _ = Y0_5_7 at HBY0_5_7 HGY0_5_7 HRY0_5_7 ⊢
       refine hK.out _ _ ⟨(HSF.out Y0_5_7 HBY0_5_7.out).1,(HSF.out Y0_5_7 HBY0_5_7.out).2.1,(HSF.out Y0_5_7 HBY0_5_7.out).2.2.1,(HSF.out Y0_5_7 HBY0_5_7.out).2.2.2.1,(HSF.out Y0_5_7 HBY0_5_7.out).2.2.2.2.1,(HSF.out Y0_5_7 HBY0_5_7.out).2.2.2.2.2.1,(HSF.out Y0_5_7 HBY0_5_7.out).2.2.2.2.2.2⟩ (fun hHeld => ?_)
       clear hK K
       refine mq ?_
       exact norm_ (by simp only [putAll,Act.put,List.setIfInBounds_toArray,List.set_cons_zero,List.set_cons_succ]) (hCont (.slice (some ⟨V4.heap.size,0,none⟩) 0 0,v8,Y0_5.heap.size) _ ⟨HBY0_5_7.out,⟨ob8,HRY0_5_7.out,HO8.out⟩,HGY0_5_7.out,HBY0_5.out.size⟩)
      ·
       skip
       refine vq ?_
       have hb_:=below_alloc (Below.refl Y0.heap.size Y0) (.cells #[.int .i64 r.f0,.int .i64 r.f1,.int .i64 a.f0,.int .i64 a.f1,.int .i64 a.f2,.int .i64 a.f3] 77 (0,0))
       have HBY0_7:=Aside0.mk (below_then HBY0.out HBY0.out.size hb_)
       have HGY0_7:=Aside0.mk (heap_alloc_new Y0 (.cells #[.int .i64 r.f0,.int .i64 r.f1,.int .i64 a.f0,.int .i64 a.f1,.int .i64 a.f2,.int .i64 a.f3] 77 (0,0)))
       clear hb_ hHeld
       generalize Y0.alloc _ = Y0_7 at HBY0_7 HGY0_7 ⊢
       refine hK.out _ _ ⟨(HSF.out Y0_7 HBY0_7.out).1,(HSF.out Y0_7 HBY0_7.out).2.1,(HSF.out Y0_7 HBY0_7.out).2.2.1,(HSF.out Y0_7 HBY0_7.out).2.2.2.1,(HSF.out Y0_7 HBY0_7.out).2.2.2.2.1,(HSF.out Y0_7 HBY0_7.out).2.2.2.2.2.1,(HSF.out Y0_7 HBY0_7.out).2.2.2.2.2.2⟩ (fun hHeld => ?_)
       clear hK K
       refine mq ?_
       refine nq 5 (some 115) fun K hK => ?_
       have hrl : Row Y0_7 77 6 (.slice sa2 T2.ss.length sc2) T2.ss.length (T2.ss.flatMap sc) T2.os:=by have h:=(C12.out.below HBY0_7.out).tb.v.rs;rw [HSV2.out] at h;exact h
       obtain ⟨v8,Y0_7_5,ob8,hrun,hrow,hob,hfr⟩:=app_row (P:=Try.prog) Y0_7 29 29 77 6 48 Try.underlying29 (by kernel_rfl) (by omega) (by omega) (.slice (some ⟨V4.heap.size,0,none⟩) 0 0) (.slice sa2 i sc2) 0 i [] ((T2.ss.flatMap sc).take (i * 6)) none T2.os (row_nil _ _ _ _) (row_take hrl hkp) (by omega) (fun x hx => sc_one T2.ss x (List.mem_of_mem_take hx))
       refine value_ (w1:=Y0_7_5) (v:=v8) (by rfl) rfl ?_ ?_
       ·
        exact run_append_op (.tmp 110) (.tmp 114) 29 29 rfl _ _ rfl rfl hrun
       have HBY0_7_5:=Aside0.mk (below_then HBY0_7.out HBY0_7.out.size (fr_none hfr))
       rw [Nat.zero_add,List.nil_append] at hrow
       have HRY0_7_5:=Aside0.mk hrow
       have HO8:=Aside0.mk (show ∀ k_,ob8 = some k_ → V4.heap.size ≤ k_ from fun k_ hk_ => by rcases hob with h|h;(rw [h] at hk_;cases hk_);(have h1:=h k_ hk_;have h2:=HBY0_7.out.size;omega))
       have HGY0_7_5:=Aside0.mk (((fr_none hfr).block _ (blk_lt HGY0_7.out)).trans HGY0_7.out)
       clear hrl hrun hrow hob hfr hHeld
       refine hK.out _ _ ⟨(HSF.out Y0_7_5 HBY0_7_5.out).1,(HSF.out Y0_7_5 HBY0_7_5.out).2.1,(HSF.out Y0_7_5 HBY0_7_5.out).2.2.1,(HSF.out Y0_7_5 HBY0_7_5.out).2.2.2.1,(HSF.out Y0_7_5 HBY0_7_5.out).2.2.2.2.1,(HSF.out Y0_7_5 HBY0_7_5.out).2.2.2.2.2.1,(HSF.out Y0_7_5 HBY0_7_5.out).2.2.2.2.2.2⟩ (fun hHeld => ?_)
       clear hK K
       refine mq ?_
       exact norm_ (by simp only [putAll,Act.put,List.setIfInBounds_toArray,List.set_cons_zero,List.set_cons_succ]) (hCont (.slice (some ⟨V4.heap.size,0,none⟩) 0 0,v8,Y0.heap.size) _ ⟨HBY0_7_5.out,⟨ob8,HRY0_7_5.out,HO8.out⟩,HGY0_7_5.out,HBY0.out.size⟩)
     ·
      skip
      refine vq ?_
      have hb_:=below_alloc (Below.refl V4.heap.size V4) (.cells #[.int .i64 r.f0,.int .i64 r.f1,.int .i64 a.f0,.int .i64 a.f1,.int .i64 a.f2,.int .i64 a.f3] 77 (0,0))
      have HBY7:=Aside0.mk (below_then HBV4.out HBV4.out.size hb_)
      have HGY7:=Aside0.mk (heap_alloc_new V4 (.cells #[.int .i64 r.f0,.int .i64 r.f1,.int .i64 a.f0,.int .i64 a.f1,.int .i64 a.f2,.int .i64 a.f3] 77 (0,0)))
      clear hb_ hHeld
      generalize V4.alloc _ = Y7 at HBY7 HGY7 ⊢
      refine hK.out _ _ ⟨(HSF.out Y7 HBY7.out).1,(HSF.out Y7 HBY7.out).2.1,(HSF.out Y7 HBY7.out).2.2.1,(HSF.out Y7 HBY7.out).2.2.2.1,(HSF.out Y7 HBY7.out).2.2.2.2.1,(HSF.out Y7 HBY7.out).2.2.2.2.2.1,(HSF.out Y7 HBY7.out).2.2.2.2.2.2⟩ (fun hHeld => ?_)
      clear hK K
      refine mq ?_
      refine nq 0 (some 110) fun K hK => ?_
      refine vq ?_
      have hb_:=below_alloc (Below.refl Y7.heap.size Y7) (.cells #[] 77 (0,0))
      have HBY7_0:=Aside0.mk (below_then HBY7.out HBY7.out.size hb_)
      have HGY7_0:=Aside0.mk ((hb_.block _ (blk_lt HGY7.out)).trans HGY7.out)
      clear hb_ hHeld
      generalize Y7.alloc _ = Y7_0 at HBY7_0 HGY7_0 ⊢
      refine hK.out _ _ ⟨(HSF.out Y7_0 HBY7_0.out).1,(HSF.out Y7_0 HBY7_0.out).2.1,(HSF.out Y7_0 HBY7_0.out).2.2.1,(HSF.out Y7_0 HBY7_0.out).2.2.2.1,(HSF.out Y7_0 HBY7_0.out).2.2.2.2.1,(HSF.out Y7_0 HBY7_0.out).2.2.2.2.2.1,(HSF.out Y7_0 HBY7_0.out).2.2.2.2.2.2⟩ (fun hHeld => ?_)
      clear hK K
      refine mq ?_
      refine nq 5 (some 115) fun K hK => ?_
      have hrl : Row Y7_0 77 6 (.slice sa2 T2.ss.length sc2) T2.ss.length (T2.ss.flatMap sc) T2.os:=by have h:=(C12.out.below HBY7_0.out).tb.v.rs;rw [HSV2.out] at h;exact h
      obtain ⟨v8,Y7_0_5,ob8,hrun,hrow,hob,hfr⟩:=app_row (P:=Try.prog) Y7_0 29 29 77 6 48 Try.underlying29 (by kernel_rfl) (by omega) (by omega) (.slice (some ⟨Y7.heap.size,0,none⟩) 0 0) (.slice sa2 i sc2) 0 i [] ((T2.ss.flatMap sc).take (i * 6)) none T2.os (row_nil _ _ _ _) (row_take hrl hkp) (by omega) (fun x hx => sc_one T2.ss x (List.mem_of_mem_take hx))
      refine value_ (w1:=Y7_0_5) (v:=v8) (by rfl) rfl ?_ ?_
      ·
       exact run_append_op (.tmp 110) (.tmp 114) 29 29 rfl _ _ rfl rfl hrun
      have HBY7_0_5:=Aside0.mk (below_then HBY7_0.out HBY7_0.out.size (fr_none hfr))
      rw [Nat.zero_add,List.nil_append] at hrow
      have HRY7_0_5:=Aside0.mk hrow
      have HO8:=Aside0.mk (show ∀ k_,ob8 = some k_ → V4.heap.size ≤ k_ from fun k_ hk_ => by rcases hob with h|h;(rw [h] at hk_;cases hk_);(have h1:=h k_ hk_;have h2:=HBY7_0.out.size;omega))
      have HGY7_0_5:=Aside0.mk (((fr_none hfr).block _ (blk_lt HGY7_0.out)).trans HGY7_0.out)
      clear hrl hrun hrow hob hfr hHeld
      refine hK.out _ _ ⟨(HSF.out Y7_0_5 HBY7_0_5.out).1,(HSF.out Y7_0_5 HBY7_0_5.out).2.1,(HSF.out Y7_0_5 HBY7_0_5.out).2.2.1,(HSF.out Y7_0_5 HBY7_0_5.out).2.2.2.1,(HSF.out Y7_0_5 HBY7_0_5.out).2.2.2.2.1,(HSF.out Y7_0_5 HBY7_0_5.out).2.2.2.2.2.1,(HSF.out Y7_0_5 HBY7_0_5.out).2.2.2.2.2.2⟩ (fun hHeld => ?_)
      clear hK K
      refine mq ?_
      exact norm_ (by simp only [putAll,Act.put,List.setIfInBounds_toArray,List.set_cons_zero,List.set_cons_succ]) (hCont (.slice (some ⟨Y7.heap.size,0,none⟩) 0 0,v8,V4.heap.size) _ ⟨HBY7_0_5.out,⟨ob8,HRY7_0_5.out,HO8.out⟩,HGY7_0_5.out,HBV4.out.size⟩)
    rintro ⟨e1_,v8,m10⟩ V5x ⟨hb5,⟨ob8,hr8,ho8⟩,hg10,hm10⟩
    have HBV5:=Aside0.mk hb5
    have HR8:=Aside0.mk hr8
    have HO8:=Aside0.mk ho8
    have HG10:=Aside0.mk hg10
    have HM10:=Aside0.mk hm10
    clear hb5 hr8 ho8 hg10 hm10
    have hHeld:=HSF.out V5x HBV5.out
    refine mq ?_
    refine nq 8 (some 118) fun K hK => ?_
    obtain ⟨v11,V6,ob11,hrun,hrow,hob,hfr⟩:=app_row (P:=Try.prog) V5x 29 29 77 6 48 Try.underlying29 (by kernel_rfl) (by omega) (by omega) v8 (.slice (some ⟨m10,0,none⟩) 1 1) i 1 ((T2.ss.flatMap sc).take (i * 6)) (sc ⟨r.f0,r.f1,a⟩) ob8 (some m10) HR8.out (row_one HG10.out rfl) (by omega) (sc_oneB _)
    refine value_ (w1:=V6) (v:=v11) (by rfl) rfl ?_ ?_
    ·
     exact run_append_op (.tmp 115) (.tmp 117) 29 29 rfl _ _ rfl rfl hrun
    have HBV6:=Aside0.mk (HBV5.out.trans (hfr.to_below HBV5.out.size (fun x hx => HO8.out x hx)))
    have HR11:=Aside0.mk hrow
    have HO11:=Aside0.mk (show ∀ k_,ob11 = some k_ → V4.heap.size ≤ k_ from fun k_ hk_ => by rcases hob with h|h;(exact HO8.out k_ (h ▸ hk_));(have h1:=h k_ hk_;have h2:=HBV5.out.size;omega))
    clear hrun hrow hob hfr hHeld
    refine hK.out _ _ ⟨(HSF.out V6 HBV6.out).1,(HSF.out V6 HBV6.out).2.1,(HSF.out V6 HBV6.out).2.2.1,(HSF.out V6 HBV6.out).2.2.2.1,(HSF.out V6 HBV6.out).2.2.2.2.1,(HSF.out V6 HBV6.out).2.2.2.2.2.1,(HSF.out V6 HBV6.out).2.2.2.2.2.2⟩ (fun hHeld => ?_)
    clear hK K
    refine mq ?_
    refine nq 13 (some 123) fun K hK => ?_
    have hrl : Row V6 77 6 (.slice sa2 T2.ss.length sc2) T2.ss.length (T2.ss.flatMap sc) T2.os:=by have h:=(C12.out.below HBV6.out).tb.v.rs;rw [HSV2.out] at h;exact h
    have hdr:=row_dropA hrl hkp
    obtain ⟨v18,V7,ob18,hrun,hrow,hob,hfr⟩:=app_row (P:=Try.prog) V6 29 29 77 6 48 Try.underlying29 (by kernel_rfl) (by omega) (by omega) v11 (.slice (if sc2 = i then sa2 else Option.map (fun x => x.add (i * 6)) sa2) (T2.ss.length - i) (sc2 - i)) (i + 1) (T2.ss.length - i) _ _ ob11 _ HR11.out hdr (by omega) (fun x hx => sc_one T2.ss x (List.mem_of_mem_drop hx))
    obtain ⟨va,vc,rfl⟩:=hrow.slice
    refine value_ (w1:=V7) (v:=.slice va (i + 1 + (T2.ss.length - i)) vc) (by rfl) rfl ?_ ?_
    ·
     exact run_append_op (.tmp 118) (.tmp 122) 29 29 rfl _ _ rfl rfl hrun
    have HBV7:=Aside0.mk (HBV6.out.trans (hfr.to_below HBV6.out.size (fun x hx => HO11.out x hx)))
    have HR18:=Aside0.mk hrow
    have HO18:=Aside0.mk (show ∀ k_,ob18 = some k_ → V4.heap.size ≤ k_ from fun k_ hk_ => by rcases hob with h|h;(exact HO11.out k_ (h ▸ hk_));(have h1:=h k_ hk_;have h2:=HBV6.out.size;omega))
    clear hrun hrow hob hfr hHeld hrl hdr
    obtain ⟨-,-,-,y3,-,-,-,z3_⟩:=(C12.out.below HBV7.out).tb.cells
    rw [HSV2.out] at y3
    refine hK.out _ _ ⟨(HSF.out V7 HBV7.out).1,(HSF.out V7 HBV7.out).2.1,(HSF.out V7 HBV7.out).2.2.1,(HSF.out V7 HBV7.out).2.2.2.1,(HSF.out V7 HBV7.out).2.2.2.2.1,(HSF.out V7 HBV7.out).2.2.2.2.2.1,(HSF.out V7 HBV7.out).2.2.2.2.2.2⟩ (fun hHeld => ?_)
    clear hK K
    refine mq ?_
    refine pq 14 (some 124) ?_
    refine lq 15 none fun K hK => ?_
    refine sq ?_
    refine hK.out _ _ ?_
    clear hK K
    refine done_ (by kernel_rfl) ?_
    (try clear hHeld)
    obtain ⟨nw,hnw⟩ : ∃ nw : List IN,nw = T2.ss.take i ++ (⟨r.f0,r.f1,a⟩ : IN) :: T2.ss.drop i:=⟨_,rfl⟩
    have hN : i + 1 + (T2.ss.length - i) = nw.length:=by rw [hnw,List.length_append,List.length_cons,List.length_take,List.length_drop];omega
    have hrw : Row V7 77 6 (.slice va nw.length vc) nw.length (nw.flatMap sc) ob18:=by
     have h:=HR18.out
     rw [hN,(flat_take (f:=sc) (sz:=6) (fun x => rfl) T2.ss i).1,(flat_take (f:=sc) (sz:=6) (fun x => rfl) T2.ss i).2] at h
     rw [hnw,sc_mid]
     simp only [List.append_assoc] at h
     rw [hnw] at h
     exact h
    have hS:=St.seens (St.refl C12.out.tb) nw (.slice va nw.length vc) ob18 (Fr.of_below HBV7.out) hrw (.inr HO18.out)
    rw [hN]
    have C14:=Aside0.mk (C12.out.step hS)
    have HGA4:=Aside0.mk ((St.keep hS HGA2.out HNA.out).1)
    generalize V7.setCell ⟨g,3,none⟩ (.slice va nw.length vc) = W14 at C14 HGA4 ⊢
    obtain ⟨T3,hT3⟩ : ∃ T3 : Tv,T3 = { T2 with ss:=nw,vs:=.slice va nw.length vc,os:=ob18 }:=⟨_,rfl⟩
    rw [← hT3] at C14
    have HT3:=Aside0.mk hT3
    have HNWS:=Aside0.mk hnw
    clear hS hT3 hrw hN hkp hl2 hlc hic y3 z3_ hnw
    (try generalize (Value.slice (if sc2 = i then sa2 else Option.map (fun x => x.add (i * 6)) sa2) (T2.ss.length - i) (sc2 - i)) = vdr_)
    go_upto_region 17 with fail
    have C17:=Aside0.mk (C14.out.below (below_drew (Below.refl _ _)))
    have HGA5:=Aside0.mk (show W14.drew.heap[na]? = some (anO a) from HGA4.out)
    obtain ⟨la2,lc2,hlv2⟩:=C17.out.tb.v.rl.slice
    obtain ⟨sa2,sc2,hsv2⟩:=C17.out.tb.v.rs.slice
    have HL2:=Aside0.mk hlv2
    have HV2:=Aside0.mk hsv2
    obtain ⟨y0,y1,y2,y3,-,-,-,-⟩:=C17.out.tb.cells
    rw [hlv2] at y2
    rw [hsv2] at y3
    obtain ⟨a0,a1,a2,a3⟩:=an_cells HGA5.out
    clear hlv2 hsv2
    refine start_ (n:=4) (S:=fun w' => w'.cell? ⟨g,0,none⟩ = some (.int .i64 T3.tm) ∧ w'.cell? ⟨g,1,none⟩ = some (.int .i64 T3.nx) ∧ w'.cell? ⟨g,2,none⟩ = some (.slice la2 T3.ls.length lc2) ∧ w'.cell? ⟨g,3,none⟩ = some (.slice sa2 T3.ss.length sc2) ∧ w'.cell? ⟨na,0,none⟩ = some (.int .i64 a.f0) ∧ w'.cell? ⟨na,1,none⟩ = some (.int .i64 a.f1) ∧ w'.cell? ⟨na,2,none⟩ = some (.int .i64 a.f2) ∧ w'.cell? ⟨na,3,none⟩ = some (.int .i64 a.f3)) (ds:=[3]) #[false,false,false,false] (by kernel_rfl) rfl rfl ⟨y0,y1,y2,y3,a0,a1,a2,a3⟩ (fun hHeld => ?_)
    clear y0 y1 y2 y3 a0 a1 a2 a3
    generalize W14.drew = V17 at C17 HGA5 hHeld ⊢
    obtain ⟨n0,n1,n2,n3,m0,m1,m2,m3⟩:=box_facts C17.out.rt
    obtain ⟨o0,o1,o2,o3,b0,b1,b2,b3⟩:=box_facts C17.out.ra
    refine tq 0 (some 125) hHeld ?_
    refine tq 1 (some 126) hHeld ?_
    refine nq 2 none fun K hK => ?_
    refine sq ?_
    have hfr2:=C17.out.fr
    have hQ:=C17.out.setT
    rw [HL2.out,HV2.out] at hQ hfr2
    have HQ2:=Aside0.mk hQ
    have hga2:=hfr2.blk HGA5.out (fun e => by have:=HNA2.out;omega)
    clear hQ hfr2 hHeld n0 n1 n2 n3 m0 m1 m2 m3 o0 o1 o2 o3 b0 b1 b2 b3
    obtain ⟨V18,hV7⟩ : ∃ V18,V18 = w4 V17 (w.heap.size + 2) (.int .i64 T3.tm) (.int .i64 T3.nx) (.slice la2 T3.ls.length lc2) (.slice sa2 T3.ss.length sc2):=⟨_,rfl⟩
    rw [← hV7] at HQ2 hga2
    unfold w4 at hV7
    rw [← hV7]
    clear hV7
    obtain ⟨y0,y1,y2,y3,-,-,-,-⟩:=HQ2.out.tb.cells
    rw [HL2.out] at y2
    rw [HV2.out] at y3
    obtain ⟨o0,o1,o2,o3,b0,b1,b2,b3⟩:=box_facts HQ2.out.ra
    obtain ⟨a0,a1,a2,a3⟩:=an_cells hga2
    refine hK.out _ _ ⟨y0,y1,y2,y3,a0,a1,a2,a3⟩ (fun hHeld => ?_)
    clear hK K
    refine lq 3 none fun K hK => ?_
    refine sq ?_
    refine hK.out _ _ ?_
    clear hK K
    refine done_ (by kernel_rfl) ?_
    (try clear hHeld)
    go_wp2_with fail
    have hA:=HQ2.out.setA a
    rw [HL2.out,HV2.out] at hA
    refine bodyPost_ret (results_two rfl _ _ (w.heap.size + 2) 31 _ (0,0) _ (w.heap.size + 3) 75 _ (0,0) _ rfl rfl hA.2.1 hA.2.2.1 Try.underlying31 rfl (by kernel_rfl) Try.underlying75 rfl (by kernel_rfl)) rfl ?_
    exact HQ2.out.out a (by rw [HQ0.out,reqY_new HK.out HTH.out HNF.out HD.out,HT3.out];show ((⟨T2.tm,T2.nx,T2.ls.map EL.x,nw⟩ : Tp),a) = _;rw [HNWS.out,HT1.out,HT2.out];rfl) (by unfold tvV anV;rw [HL2.out,HV2.out])
end Go.Proofs.Ytjkanhjapddhnaa.SApp
