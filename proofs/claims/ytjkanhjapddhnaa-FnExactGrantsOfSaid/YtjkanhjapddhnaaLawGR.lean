/- The law FnExactGrantsOf, walked by hand (written by mklaw6.py): the way on which every comparison succeeds. -/
-- squeezed
import Derived.Test.YtjkanhjapddhnaaGrS
import Derived.Test.YtjkanhjapddhnaaHeldG
import Derived.Test.YtjkanhjapddhnaaPFnExactRunRequestsx2
namespace Go.Proofs.Ytjkanhjapddhnaa.LawGR
open Go.RowKit Go.Lib Go.Proofs.YtjkanhjapddhnaaV.PrintWords Go.Proofs.YtjkanhjapddhnaaV.PrintMore Go.Proofs.YtjkanhjapddhnaaV.PrintLast Go.Proofs.Ytjkanhjapddhnaa.Own Go.Proofs.Ytjkanhjapddhnaa.MarkT Go.Proofs.Ytjkanhjapddhnaa.Tb Go.Proofs.Ytjkanhjapddhnaa.Pu Go.Proofs.Ytjkanhjapddhnaa.Ctx Go.Proofs.Ytjkanhjapddhnaa.InsR Go.Proofs.Ytjkanhjapddhnaa.Inv Go.Proofs.Ytjkanhjapddhnaa.Cod Go.Proofs.Ytjkanhjapddhnaa.Run Go.Proofs.Ytjkanhjapddhnaa.SOwn Go.Proofs.Ytjkanhjapddhnaa.SRun Go.Proofs.Ytjkanhjapddhnaa.Held Go.Proofs.Ytjkanhjapddhnaa.GrP Go.Proofs.Ytjkanhjapddhnaa.GrI Go.Proofs.Ytjkanhjapddhnaa.GrS Go.Proofs.Ytjkanhjapddhnaa.HeldG Go.Proofs.Ytjkanhjapddhnaa.PFnExactRunRequests
set_option linter.unusedVariables false
set_option linter.unusedSimpArgs false
set_option maxHeartbeats 20000000
set_option maxRecDepth 100000
theorem row_ofG {α : Type} {d : Kd α} {e : Nat} {w : World} {base : Nat} {ok : Nat → Prop} {v : Value} {l : List α} (h : d.R e w base ok v l) : ∃ xs ob,Row w e d.sz v l.length xs ob ∧ Of w e base ob:=by
 obtain ⟨h0,inner,ho,hr⟩:=h
 obtain ⟨ob,hrow,hob,hof⟩:=row_of ho
 exact ⟨inner,ob,hrow,hof⟩
theorem grS_len (l : List (RQ × Int)) : ∀ (s : Tp × List GR) (N : Int),(∀ p ∈ l,okR p.1 = true ∧ okT p.2 = true) → TGood N s.1 → N + 5 * l.length ≤ 1010 → (grS s l).2.length ≤ s.2.length + 4100 * l.length:=by
 induction l with
 | nil => intro s N _ _ _;simp [grS]
 | cons p l ih =>
  intro s N hp h hN
  obtain ⟨q1,q2⟩:=hp p List.mem_cons_self
  have hg:=good_req h (okT_good q2) (okR_good q1)
  have h1:=ih (gstep s p) (N + 5) (fun x hx => hp x (List.mem_cons_of_mem _ hx)) hg (by simp only [List.length_cons] at hN;omega)
  have h2 : (gstep s p).2.length ≤ s.2.length + 4100:=by
   show (s.2 ++ gtoks _ _ _).length ≤ _
   have h3:=gtoks_len s.1.nx (reqX s.1 p.2 p.1).1.ls hg.l4 ((reqX s.1 p.2 p.1).1.nx - s.1.nx).toNat
   have h4:=hg.nx
   have h5:=h.nx
   simp only [List.length_cons] at hN
   rw [List.length_append]
   omega
  show (grS (gstep s p) l).2.length ≤ _
  simp only [List.length_cons]
  omega
theorem grAll_len (l : List RQ) (ts : List Int) : (grAll l ts).1.length ≤ 820000:=by
 unfold grAll
 split
 ·
  rename_i h
  obtain ⟨h1,h2,h3,h4⟩:=code_zero h
  have h5 : (l.zip ts).length ≤ 200:=by rw [List.length_zip];omega
  have h6:=grS_len (l.zip ts) (newT,[]) 1 (fun p hp => by
   obtain ⟨a,b⟩:=p
   obtain ⟨m1,m2⟩:=List.of_mem_zip hp
   exact ⟨List.all_eq_true.1 h3 a m1,List.all_eq_true.1 h4 b m2⟩) new_good (by omega)
  simp only [List.length_nil] at h6
  show (grS _ _).2.length ≤ _
  omega
 ·
  simp
structure Cg (w W : World) (avs : Value) (gs : List GR) (oas : Option Nat) (lo : Nat) : Prop where
 b : Below w.heap.size w W
 row : Row W 96 4 avs gs.length (gs.flatMap gc) oas
 ge : ∀ b,oas = some b → b < lo
 l1 : w.heap.size ≤ lo
theorem Cg.below {w W W' : World} {avs : Value} {gs : List GR} {oas : Option Nat} {lo : Nat} (h : Cg w W avs gs oas lo) (hb : Below W.heap.size W W') : Cg w W' avs gs oas lo:=⟨below_then h.b h.b.size hb,h.row.kept (fun b hb' => hb.block b (h.row.lt b hb')),h.ge,h.l1⟩
theorem Cg.fr {S : Nat → Prop} {w W W' : World} {avs : Value} {gs : List GR} {oas : Option Nat} {lo : Nat} (h : Cg w W avs gs oas lo) (hf : Fr S W W') (hS : ∀ x,S x → lo ≤ x) : Cg w W' avs gs oas lo :=
 ⟨⟨hf.os.trans h.b.os,hf.tape.trans h.b.tape,hf.output.trans h.b.output,Nat.le_trans h.b.size hf.size,fun k hk => (hf.block k (Nat.lt_of_lt_of_le hk h.b.size) (fun hh => by have:=hS k hh;have:=h.l1;omega)).trans (h.b.block k hk)⟩,
  h.row.kept (fun b hb => hf.block b (h.row.lt b hb) (fun hh => by have:=hS b hh;have:=h.ge b hb;omega)),h.ge,h.l1⟩
theorem lawG_neg (k : Nat) (A : Option Addr) (c0 : Nat) (l : List S90) (B : Option Addr) (c1 : Nat) (ts : List Int) (w : World) (hr : Kd.C k90 w A l.length l) (hc : l.length ≤ c0) (h : 1048576 < ts.length ∨ (ts.length ≤ 1048576 ∧ ∃ r,laws_szRequestS.f k l 1048576 = some r ∧ r < 0)) :
  Calls Try.prog 6 #[.slice A l.length c0,.slice B ts.length c1] w fun e w' => e = .returned (.bool true) ∧ Below w.heap.size w w':=by
 rcases h with h|⟨h,r,h1,hneg⟩
 ·
  have p0 : decide (1048576 < (ts.length : Int)) = true:=decide_eq_true (by omega)
  go_enter Try.func6,Try.ntmps6
  go_wp2_with fail
  go_ret
  exact ⟨rfl,Below.refl _ _⟩
 ·
  have p0 : decide (1048576 < (ts.length : Int)) = false:=decide_eq_false (by omega)
  have HR:=Aside0.mk hr
  have H1:=Aside0.mk h1
  clear hr h1
  go_enter Try.func6,Try.ntmps6
  go_wp2_with fail
  refine (laws_szRequestS.calls k A c0 l _ _ w HR.out hc H1.out).mono ?_
  rintro _ W1 ⟨rfl,hb⟩
  have HB:=Aside0.mk hb
  have p1 : decide (r < 0) = true:=decide_eq_true hneg
  clear hb
  go_wp2_with fail
  go_ret
  exact ⟨rfl,HB.out⟩
theorem lawG_pos (k : Nat) (A : Option Addr) (c0 : Nat) (l : List S90) (B : Option Addr) (c1 : Nat) (ts : List Int) (r : Int) (m : List RQ) (mt : Int → ByteArray) (w : World) (hr : Kd.C k90 w A l.length l) (hc : l.length ≤ c0) (hr' : Kd.C (Kd.int .i64) w B ts.length ts) (hc' : ts.length ≤ c1)
  (h1 : laws_szRequestS.f k l 1048576 = some r) (hpos : 0 ≤ r) (hts : ts.length ≤ 1048576) (h2 : laws_toRequestS.f k l = some m) (h3 : laws_toIntS.f k ts = some ts) (h4 : laws_eqRequestS.f k m m = some true) (h5 : laws_eqIntS.f k ts ts = some true)
  (h8 : ∀ j : Int,0 ≤ j → j ≤ 4611686018427387904 → laws_markText.f k j = some (mt j)) (hm : m.length ≤ 1048576) (hs : ∀ r ∈ m,r.f4.size ≤ 140737488351232) :
  Calls Try.prog 6 #[.slice A l.length c0,.slice B ts.length c1] w fun e w' => e = .returned (.bool true) ∧ Below w.heap.size w w':=by
 have HR:=Aside0.mk hr
 have HR':=Aside0.mk hr'
 have HC:=Aside0.mk hc
 have HC':=Aside0.mk hc'
 have H1:=Aside0.mk h1
 have H2:=Aside0.mk h2
 have H3:=Aside0.mk h3
 have H4:=Aside0.mk h4
 have H5:=Aside0.mk h5
 have HMT:=Aside0.mk (fun (j : Int) (W : World) (h : 0 ≤ j) (h' : j ≤ 4611686018427387904) => laws_markText.calls k j _ W (h8 j h h'))
 have HS:=Aside0.mk hs
 have p0 : decide (1048576 < (ts.length : Int)) = false:=decide_eq_false (by omega)
 clear hr hr' hc hc' h1 h2 h3 h4 h5 h8 hs
 obtain ⟨RA,hRA⟩ : ∃ RA,RA = grAll m ts:=⟨_,rfl⟩
 have HRA:=Aside0.mk hRA
 have HRL:=Aside0.mk (show RA.1.length ≤ 820000 by rw [hRA];exact grAll_len m ts)
 clear hRA
 go_enter Try.func6,Try.ntmps6
 go_wp2_with fail
 refine (laws_szRequestS.calls k A c0 l _ _ w HR.out HC.out H1.out).mono ?_
 rintro _ W1 ⟨rfl,hb⟩
 have I1:=Aside0.mk hb
 have p1 : decide (r < 0) = false:=decide_eq_false (by omega)
 clear hb
 go_wp2_with fail
 refine (laws_toRequestS.calls k A c0 l m _ (Kd.C_below HR.out I1.out) HC.out H2.out).mono ?_
 rintro _ W2 ⟨v_,rfl,hrow,hb⟩
 obtain ⟨a1,d1,rfl,hl,hcc⟩:=Kd.R_reads hrow
 have HL1:=Aside0.mk hl
 have HCC1:=Aside0.mk hcc
 have I2:=Aside0.mk (below_then I1.out I1.out.size hb)
 clear hrow hb hl hcc
 go_wp2_with fail
 refine (laws_toIntS.calls k B c1 ts ts _ (Kd.C_below HR'.out I2.out) HC'.out H3.out).mono ?_
 rintro _ W3 ⟨v_,rfl,hrow,hb⟩
 obtain ⟨b1,e1,rfl,hl,hcc⟩:=Kd.R_reads hrow
 have HM1:=Aside0.mk hl
 have HDD1:=Aside0.mk hcc
 have I3:=Aside0.mk (below_then I2.out I2.out.size hb)
 have HCC2:=Aside0.mk (Kd.C_below HCC1.out hb)
 clear hrow hb hl hcc
 go_wp2_with fail
 have hq:=grantsS_calls a1 d1 m b1 e1 ts W3 HCC2.out HS.out HDD1.out HL1.out HM1.out
 rw [← HRA.out] at hq
 with_reducible refine hq.mono ?_
 clear hq
 rintro _ W4 ⟨avs,oas,rfl,hrow,hof,hb⟩
 have C4:=Aside0.mk (show Cg w W4 avs RA.1 oas W4.heap.size from ⟨below_then I3.out I3.out.size hb,hrow,fun b hb' => hrow.lt b hb',(below_then I3.out I3.out.size hb).size⟩)
 generalize hlo : W4.heap.size = lo at C4
 have HLO:=Aside0.mk hlo
 clear hb hrow hof hlo I1 I2 I3 HCC1 HCC2 HL1 HM1 HDD1
 go_wp2_with fail
 refine (laws_toRequestS.calls k A c0 l m _ (Kd.C_below HR.out C4.out.b) HC.out H2.out).mono ?_
 rintro _ W5 ⟨v_,rfl,hrow,hb⟩
 obtain ⟨a2,d2,rfl,hl,hcc⟩:=Kd.R_reads hrow
 have HL2:=Aside0.mk hl
 have HCC2:=Aside0.mk hcc
 have C5:=Aside0.mk (C4.out.below hb)
 obtain ⟨xs0,o0,hr0,hof0⟩:=row_ofG hrow
 have HR5:=Aside0.mk (show Row W5 94 5 (.slice a2 m.length d2) m.length xs0 o0 from hr0)
 have HO0:=Aside0.mk (show ∀ b,o0 = some b → lo ≤ b from fun b hb' => HLO.out ▸ (hof0 b hb').1)
 have HX5:=Aside0.mk hcc
 have HLW:=Aside0.mk (show lo ≤ W5.heap.size from HLO.out ▸ hb.size)
 clear hr0 hof0
 clear hrow hb hl hcc
 go_wp2_with fail
 refine (laws_toIntS.calls k B c1 ts ts _ (Kd.C_below HR'.out C5.out.b) HC'.out H3.out).mono ?_
 rintro _ W6 ⟨v_,rfl,hrow,hb⟩
 obtain ⟨b2,e2,rfl,hl,hcc⟩:=Kd.R_reads hrow
 have HM2:=Aside0.mk hl
 have HDD2:=Aside0.mk hcc
 have C6:=Aside0.mk (C5.out.below hb)
 have HR6:=Aside0.mk (HR5.out.kept (fun b hb' => hb.block b (HR5.out.lt b hb')))
 have HX6:=Aside0.mk (Kd.C_below HX5.out hb)
 obtain ⟨xs1,o1,hr0,hof0⟩:=row_ofG hrow
 have HQ6:=Aside0.mk (show Row W6 3 1 (.slice b2 ts.length e2) ts.length xs1 o1 from hr0)
 have HO1:=Aside0.mk (show ∀ b,o1 = some b → lo ≤ b from fun b hb' => Nat.le_trans HLW.out (hof0 b hb').1)
 have HAP:=Aside0.mk (show ∀ b,o0 = some b → o1 = some b → False from fun b h1 h2 => by have h3:=HR5.out.lt b h1;have h4:=(hof0 b h2).1;omega)
 have HY6:=Aside0.mk hcc
 have HSZ56:=Aside0.mk (show W5.heap.size ≤ W6.heap.size from hb.size)
 clear hr0 hof0
 clear hrow hb hl hcc
 go_wp2_with fail
 have hq:=grantsOf_calls a2 d2 m b2 e2 ts W6 HX6.out HS.out HY6.out HL2.out HM2.out
 rw [← HRA.out] at hq
 with_reducible refine hq.mono ?_
 clear hq
 rintro _ W7 ⟨avi,oai,rfl,hrow,hof,hb⟩
 have J7:=Aside0.mk hrow
 have HOI:=Aside0.mk (show ∀ b,oai = some b → lo ≤ b ∧ o0 ≠ some b ∧ o1 ≠ some b from fun b hb' => by
  have h1:=hof b hb'
  have h2:=HLW.out
  have h3:=HR6.out.lt
  have h4:=HQ6.out.lt
  have h5:=HR5.out.lt
  exact ⟨Nat.le_trans (Nat.le_trans h2 HSZ56.out) h1,fun e => by have:=h3 b e;omega,fun e => by have:=h4 b e;omega⟩)
 have C7:=Aside0.mk (C6.out.below hb)
 have HR7:=Aside0.mk (HR6.out.kept (fun b hb' => hb.block b (HR6.out.lt b hb')))
 have HX7:=Aside0.mk (Kd.C_below HX6.out hb)
 have HQ7:=Aside0.mk (HQ6.out.kept (fun b hb' => hb.block b (HQ6.out.lt b hb')))
 have HY7:=Aside0.mk (Kd.C_below HY6.out hb)
 clear hb hrow hof
 go_wp2_with fail
 with_reducible refine (eqG_calls W7 avi avs RA.1 oai oas J7.out C7.out.row (by have:=HRL.out;omega)).mono ?_
 rintro _ W8 ⟨rfl,hb⟩
 have C8:=Aside0.mk (C7.out.below hb)
 have J8:=Aside0.mk (J7.out.kept (fun b hb' => hb.block b (J7.out.lt b hb')))
 have HR8:=Aside0.mk (HR7.out.kept (fun b hb' => hb.block b (HR7.out.lt b hb')))
 have HX8:=Aside0.mk (Kd.C_below HX7.out hb)
 have HQ8:=Aside0.mk (HQ7.out.kept (fun b hb' => hb.block b (HQ7.out.lt b hb')))
 have HY8:=Aside0.mk (Kd.C_below HY7.out hb)
 clear hb
 go_wp2_with fail
 refine (laws_toRequestS.calls k A c0 l m _ (Kd.C_below HR.out C8.out.b) HC.out H2.out).mono ?_
 rintro _ W9 ⟨v_,rfl,hrow,hb⟩
 obtain ⟨a3,d3,rfl,hl,hcc⟩:=Kd.R_reads hrow
 have HL3:=Aside0.mk hl
 have HCC3:=Aside0.mk hcc
 have C9:=Aside0.mk (C8.out.below hb)
 have J9:=Aside0.mk (J8.out.kept (fun b hb' => hb.block b (J8.out.lt b hb')))
 have HR9:=Aside0.mk (HR8.out.kept (fun b hb' => hb.block b (HR8.out.lt b hb')))
 have HX9:=Aside0.mk (Kd.C_below HX8.out hb)
 have HQ9:=Aside0.mk (HQ8.out.kept (fun b hb' => hb.block b (HQ8.out.lt b hb')))
 have HY9:=Aside0.mk (Kd.C_below HY8.out hb)
 clear hrow hb hl hcc
 go_wp2_with fail
 with_reducible refine (laws_eqRequestS.calls k a2 d2 m a3 d3 m true W9 HX9.out HL2.out HCC3.out HL3.out H4.out).mono ?_
 rintro _ W10 ⟨rfl,hb⟩
 have C10:=Aside0.mk (C9.out.below hb)
 have J10:=Aside0.mk (J9.out.kept (fun b hb' => hb.block b (J9.out.lt b hb')))
 have HR10:=Aside0.mk (HR9.out.kept (fun b hb' => hb.block b (HR9.out.lt b hb')))
 have HX10:=Aside0.mk (Kd.C_below HX9.out hb)
 have HQ10:=Aside0.mk (HQ9.out.kept (fun b hb' => hb.block b (HQ9.out.lt b hb')))
 have HY10:=Aside0.mk (Kd.C_below HY9.out hb)
 clear hb
 go_wp2_with fail
 refine (laws_toIntS.calls k B c1 ts ts _ (Kd.C_below HR'.out C10.out.b) HC'.out H3.out).mono ?_
 rintro _ W11 ⟨v_,rfl,hrow,hb⟩
 obtain ⟨b3,e3,rfl,hl,hcc⟩:=Kd.R_reads hrow
 have HM3:=Aside0.mk hl
 have HDD3:=Aside0.mk hcc
 have C11:=Aside0.mk (C10.out.below hb)
 have J11:=Aside0.mk (J10.out.kept (fun b hb' => hb.block b (J10.out.lt b hb')))
 have HR11:=Aside0.mk (HR10.out.kept (fun b hb' => hb.block b (HR10.out.lt b hb')))
 have HX11:=Aside0.mk (Kd.C_below HX10.out hb)
 have HQ11:=Aside0.mk (HQ10.out.kept (fun b hb' => hb.block b (HQ10.out.lt b hb')))
 have HY11:=Aside0.mk (Kd.C_below HY10.out hb)
 clear hrow hb hl hcc
 go_wp2_with fail
 with_reducible refine (laws_eqIntS.calls k b2 e2 ts b3 e3 ts true W11 HY11.out HM2.out HDD3.out HM3.out H5.out).mono ?_
 rintro _ W12 ⟨rfl,hd⟩
 have hb:=hd.below
 have C12:=Aside0.mk (C11.out.below hb)
 have J12:=Aside0.mk (J11.out.kept (fun b hb' => hb.block b (J11.out.lt b hb')))
 have HR12:=Aside0.mk (HR11.out.kept (fun b hb' => hb.block b (HR11.out.lt b hb')))
 have HX12:=Aside0.mk (Kd.C_below HX11.out hb)
 have HQ12:=Aside0.mk (HQ11.out.kept (fun b hb' => hb.block b (HQ11.out.lt b hb')))
 have HY12:=Aside0.mk (Kd.C_below HY11.out hb)
 clear hb hd HCC3 HL3 HDD3 HM3
 go_wp2_with fail
 with_reducible refine (markR_calls mt HMT.out _ m.length xs0 o0 1 W12 (fun b => o0 = some b) HR12.out (fun b hb => hb) (by omega) (by omega)).mono ?_
 rintro _ W13 ⟨rfl,-,hf⟩
 have C13:=Aside0.mk (C12.out.fr hf (fun x hx => HO0.out x hx))
 have J13:=Aside0.mk (J12.out.kept (fun b hb => hf.block b (J12.out.lt b hb) (fun e => (HOI.out b hb).2.1 e)))
 have HQ13:=Aside0.mk (HQ12.out.kept (fun b hb => hf.block b (HQ12.out.lt b hb) (fun e => HAP.out b e hb)))
 obtain ⟨k1,hk1⟩ : ∃ k1 : Int,k1 = 1 + 5 * (m.length : Int):=⟨_,rfl⟩
 rw [← hk1]
 have hk1a : 0 ≤ k1:=by omega
 have hk1b : k1 ≤ 5242881:=by omega
 clear hf hk1
 go_wp2_with fail
 with_reducible refine (markI_calls _ ts.length xs1 o1 k1 W13 (fun b => o1 = some b) HQ13.out (fun b hb => hb) (by omega) (by omega)).mono ?_
 rintro _ W14 ⟨rfl,-,hf⟩
 have C14:=Aside0.mk (C13.out.fr hf (fun x hx => HO1.out x hx))
 have J14:=Aside0.mk (J13.out.kept (fun b hb => hf.block b (J13.out.lt b hb) (fun e => (HOI.out b hb).2.2 e)))
 obtain ⟨k2,hk2⟩ : ∃ k2 : Int,k2 = k1 + 1 * (ts.length : Int):=⟨_,rfl⟩
 rw [← hk2]
 have p2 : decide (k2 < 0) = false:=decide_eq_false (by omega)
 clear hf hk2 HR12 HX12 HQ12 HY12 HQ13
 go_wp2_with fail
 with_reducible refine (eqG_calls W14 avi avs RA.1 oai oas J14.out C14.out.row (by have:=HRL.out;omega)).mono ?_
 rintro _ W15 ⟨rfl,hb⟩
 have C15:=Aside0.mk (C14.out.below hb)
 have J15:=Aside0.mk (J14.out.kept (fun b hb' => hb.block b (J14.out.lt b hb')))
 clear hb
 go_wp2_with fail
 with_reducible refine (markG_calls mt HMT.out _ RA.1.length (RA.1.flatMap gc) oai 1 W15 (fun b => oai = some b) J15.out (fun b hb => hb) (by omega) (by have:=HRL.out;omega)).mono ?_
 rintro _ W16 ⟨rfl,hrow,hf⟩
 have C16:=Aside0.mk (C15.out.fr hf (fun x hx => (HOI.out x hx).1))
 have J16:=Aside0.mk hrow
 obtain ⟨k3,hk3⟩ : ∃ k3 : Int,k3 = 1 + 4 * (RA.1.length : Int):=⟨_,rfl⟩
 rw [← hk3]
 have HK3:=Aside0.mk hk3
 have p3 : decide (k3 < 0) = false:=decide_eq_false (by omega)
 clear hf hrow hk3
 go_wp2_with fail
 with_reducible refine (heldG_calls mt HMT.out _ RA.1.length oai 1 W16 J16.out (by omega) (by have:=HRL.out;omega)).mono ?_
 rintro _ W17 ⟨rfl,hb⟩
 have C17:=Aside0.mk (C16.out.below hb)
 have J17:=Aside0.mk (J16.out.kept (fun b hb' => hb.block b (J16.out.lt b hb')))
 clear hb
 rw [← HK3.out]
 go_wp2_with fail
 refine (laws_toRequestS.calls k A c0 l m _ (Kd.C_below HR.out C17.out.b) HC.out H2.out).mono ?_
 rintro _ W18 ⟨v_,rfl,hrow,hb⟩
 obtain ⟨a4,d4,rfl,hl,hcc⟩:=Kd.R_reads hrow
 have HL4:=Aside0.mk hl
 have HCC4:=Aside0.mk hcc
 have C18:=Aside0.mk (C17.out.below hb)
 have J18:=Aside0.mk (J17.out.kept (fun b hb' => hb.block b (J17.out.lt b hb')))
 clear hrow hb hl hcc
 go_wp2_with fail
 refine (laws_toIntS.calls k B c1 ts ts _ (Kd.C_below HR'.out C18.out.b) HC'.out H3.out).mono ?_
 rintro _ W19 ⟨v_,rfl,hrow,hb⟩
 obtain ⟨b4,e4,rfl,hl,hcc⟩:=Kd.R_reads hrow
 have HM4:=Aside0.mk hl
 have HDD4:=Aside0.mk hcc
 have C19:=Aside0.mk (C18.out.below hb)
 have J19:=Aside0.mk (J18.out.kept (fun b hb' => hb.block b (J18.out.lt b hb')))
 have HX19:=Aside0.mk (Kd.C_below HCC4.out hb)
 clear hrow hb hl hcc
 go_wp2_with fail
 have hq:=grantsOf_calls a4 d4 m b4 e4 ts W19 HX19.out HS.out HDD4.out HL4.out HM4.out
 rw [← HRA.out] at hq
 with_reducible refine hq.mono ?_
 clear hq
 rintro _ W20 ⟨avh,oah,rfl,hrow,-,hb⟩
 have HH20:=Aside0.mk hrow
 have C20:=Aside0.mk (C19.out.below hb)
 have J20:=Aside0.mk (J19.out.kept (fun b hb' => hb.block b (J19.out.lt b hb')))
 clear hb hrow
 go_wp2_with fail
 with_reducible refine (eqG_calls W20 avh avs RA.1 oah oas HH20.out C20.out.row (by have:=HRL.out;omega)).mono ?_
 rintro _ W21 ⟨rfl,hb⟩
 have C21:=Aside0.mk (C20.out.below hb)
 have J21:=Aside0.mk (J20.out.kept (fun b hb' => hb.block b (J20.out.lt b hb')))
 clear hb
 go_wp2_with fail
 with_reducible refine (heldG_calls mt HMT.out _ RA.1.length oai 1 W21 J21.out (by omega) (by have:=HRL.out;omega)).mono ?_
 rintro _ W22 ⟨rfl,hb⟩
 have C22:=Aside0.mk (C21.out.below hb)
 have J22:=Aside0.mk (J21.out.kept (fun b hb' => hb.block b (J21.out.lt b hb')))
 clear hb
 rw [← HK3.out]
 go_wp2_with fail
 go_ret
 exact ⟨rfl,C22.out.b⟩
end Go.Proofs.Ytjkanhjapddhnaa.LawGR
