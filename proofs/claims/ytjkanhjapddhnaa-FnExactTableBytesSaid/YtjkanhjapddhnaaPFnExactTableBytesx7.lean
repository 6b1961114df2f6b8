-- laid by this session's program myprint.py over the kit's printer
-- squeezed
-- aliased
import Derived.Test.YtjkanhjapddhnaaPFnExactTableBytesx0
import Derived.Test.YtjkanhjapddhnaaPFnExactTableBytesx6
namespace Go.Proofs.Ytjkanhjapddhnaa.PFnExactTableBytes
open Go.RowKit Go.Proofs.YtjkanhjapddhnaaV.PrintWords Go.Proofs.YtjkanhjapddhnaaV.PrintLast Go.Proofs.YtjkanhjapddhnaaV.PrintMore
attribute [local go_sem] max2_int min2_int max_two min_two max_three min_three max_four min_four u8_wm u32_wm   -- for this text's walks alone
set_option linter.unusedVariables false
set_option linter.unusedSimpArgs false

/-! ### impl_tableText: function 52, given -/
section
open Go.Proofs.Ytjkanhjapddhnaa.Quiet2 Go.Lib
theorem qa7 : type_of% @pw_below_drewN:=@pw_below_drewN
theorem qb7 : type_of% @Aside0.mk:=@Aside0.mk
theorem wrap_id_ {x : Int} (h1 : -9223372036854775808 ≤ x) (h2 : x ≤ 9223372036854775807) : wrap64 x = x:=by
 unfold wrap64
 omega
def num_ (x : Int) : Nat → List Int → List Int
 | 0,l => l
 | k + 1,l => num_ (x / 256) k (l.set k (x % 256))
theorem number_l0_ (d : Nat) : ∀ (k : Nat) (x : Int) (l : List Int),d ≤ l.length → l.length ≤ 65536 → d < k → impl_number.l0 k x l ((d : Int) - 1) = some (strOfNums (num_ x d l)):=by
 induction d with
 | zero =>
  intro k x l _ _ hk
  obtain ⟨k,rfl⟩ : ∃ m,k = m + 1:=⟨k - 1,by omega⟩
  rw [impl_number.l0,if_neg (by omega)]
  rfl
 | succ d ih =>
  intro k x l hd hl hk
  obtain ⟨k,rfl⟩ : ∃ m,k = m + 1:=⟨k - 1,by omega⟩
  rw [impl_number.l0,if_pos (by omega),if_pos (by omega),if_pos (by omega)]
  have h1 : wrap64 (((d + 1 : Nat) : Int) - 1 - 1) = (d : Int) - 1:=by rw [wrap_id_ (by omega) (by omega)];omega
  have h2 : (((d + 1 : Nat) : Int) - 1).toNat = d:=by omega
  rw [h1,h2,ih _ _ _ (by rw [List.length_set];omega) (by rw [List.length_set];exact hl) (by omega)]
  rfl
theorem number_tells_ (n : Nat) (x : Int) (h0 : n ≤ 65536) (k : Nat) (hk : n < k) : impl_number.f k x n = some (strOfNums (num_ x n (List.replicate n 0))):=by
 rw [impl_number.f,if_pos (by omega),if_pos (by omega),wrap_id_ (by omega) (by omega),Int.toNat_natCast]
 exact number_l0_ n k x _ (by simp) (by simp;omega) hk
theorem number1_ (x : Int) : impl_number.f 9 x 1 = some (strOfNums [x % 256]):=number_tells_ 1 x (by omega) 9 (by omega)
theorem number2_ (x : Int) : impl_number.f 9 x 2 = some (strOfNums [x / 256 % 256,x % 256]):=number_tells_ 2 x (by omega) 9 (by omega)
theorem number3_ (x : Int) : impl_number.f 9 x 3 = some (strOfNums [x / 65536 % 256,x / 256 % 256,x % 256]):=by
 have h : num_ x 3 (List.replicate 3 0) = [x / 65536 % 256,x / 256 % 256,x % 256]:=by
  show [x / 256 / 256 % 256,x / 256 % 256,x % 256] = _
  rw [show x / 256 / 256 = x / 65536 by omega]
 rw [← h]
 exact number_tells_ 3 x (by omega) 9 (by omega)
theorem number4_ (x : Int) : impl_number.f 9 x 4 = some (strOfNums [x / 16777216 % 256,x / 65536 % 256,x / 256 % 256,x % 256]):=by
 have h : num_ x 4 (List.replicate 4 0) = [x / 16777216 % 256,x / 65536 % 256,x / 256 % 256,x % 256]:=by
  show [x / 256 / 256 / 256 % 256,x / 256 / 256 % 256,x / 256 % 256,x % 256] = _
  rw [show x / 256 / 256 = x / 65536 by omega,show x / 65536 / 256 = x / 16777216 by omega]
 rw [← h]
 exact number_tells_ 4 x (by omega) 9 (by omega)
/-! #### the bytes of numbers, locks, tables -/
def nb (n : Int) (x : Int) : ByteArray:=strOfNums (if n = 1 then [x % 256] else if n = 2 then [x / 256 % 256,x % 256] else if n = 3 then [x / 65536 % 256,x / 256 % 256,x % 256] else [x / 16777216 % 256,x / 65536 % 256,x / 256 % 256,x % 256])
set_option maxHeartbeats 20000000 in
set_option maxRecDepth 100000 in
theorem nb1_size (x : Int) : (nb 1 x).size = 1:=rfl
set_option maxHeartbeats 20000000 in
set_option maxRecDepth 100000 in
theorem nb2_size (x : Int) : (nb 2 x).size = 2:=rfl
set_option maxHeartbeats 20000000 in
set_option maxRecDepth 100000 in
theorem nb3_size (x : Int) : (nb 3 x).size = 3:=rfl
set_option maxHeartbeats 20000000 in
set_option maxRecDepth 100000 in
theorem nb4_size (x : Int) : (nb 4 x).size = 4:=rfl
set_option maxHeartbeats 20000000 in
set_option maxRecDepth 100000 in
theorem nb_call (n x : Int) (w : World) (h : 1 ≤ n ∧ n ≤ 4) : Calls Try.prog 80 #[.int .i64 x,.int .i64 n] w fun e w' => e = .returned (.string (nb n x)) ∧ Below w.heap.size w w':=by
 rcases (by omega : n = 1 ∨ n = 2 ∨ n = 3 ∨ n = 4) with rfl|rfl|rfl|rfl
 ·
  exact impl_number.calls 9 x 1 _ w (number1_ x)
 ·
  exact impl_number.calls 9 x 2 _ w (number2_ x)
 ·
  exact impl_number.calls 9 x 3 _ w (number3_ x)
 ·
  exact impl_number.calls 9 x 4 _ w (number4_ x)
def waiterT (x : S73) : ByteArray:=nb 1 x.f0 ++ nb 2 x.f1
def catT (l : List ByteArray) : ByteArray:=l.foldr (· ++ ·) ⟨#[]⟩
def lockH (x : S70) : ByteArray:=nb 1 (x.f0.size : Int) ++ x.f0 ++ nb 3 x.f1 ++ nb 2 (wrap64 (x.f2 + 1)) ++ nb 4 x.f3 ++ nb 1 (x.f4.length : Int)
def lockT (x : S70) : ByteArray:=lockH x ++ catT (x.f4.map waiterT)
def ansT (x : S75) : ByteArray:=nb 1 x.f0 ++ nb 3 x.f1 ++ nb 2 (wrap64 (x.f2 + 1)) ++ nb 4 x.f3
def seenT (x : S77) : ByteArray:=nb 1 x.f0 ++ nb 2 x.f1 ++ ansT x.f2
def headT (t0 t1 : Int) (n : Nat) : ByteArray:=nb 4 t0 ++ nb 3 t1 ++ nb 1 (n : Int)
def tableT (t0 t1 : Int) (l2 : List S70) (l3 : List S77) : ByteArray:=headT t0 t1 l2.length ++ catT (l2.map lockT) ++ nb 1 (l3.length : Int) ++ catT (l3.map seenT)
set_option maxHeartbeats 20000000 in
set_option maxRecDepth 100000 in
theorem ansT_calls (x : S75) (w : World) : Calls Try.prog 81 #[.agg #[.int .i64 x.f0,.int .i64 x.f1,.int .i64 x.f2,.int .i64 x.f3]] w fun e w' => e = .returned (.string (ansT x)) ∧ Below w.heap.size w w':=by
 have HXB:=qb7 (heap_alloc_new w (.cells #[.int .i64 x.f0,.int .i64 x.f1,.int .i64 x.f2,.int .i64 x.f3] 75 (0,0)))
 have HWB:=qb7 ((Below.refl w.heap.size w).alloc (Nat.le_refl _) (.cells #[.int .i64 x.f0,.int .i64 x.f1,.int .i64 x.f2,.int .i64 x.f3] 75 (0,0)))
 have a0:=nb1_size x.f0
 have a1:=nb3_size x.f1
 have a2:=nb2_size (wrap64 (x.f2 + 1))
 have a3:=nb4_size x.f3
 unfold ansT
 go_enter Try.func81,Try.ntmps81
 go_upto_region 1 with fail
 generalize w.alloc (.cells #[.int .i64 x.f0,.int .i64 x.f1,.int .i64 x.f2,.int .i64 x.f3] 75 (0,0)) = W1 at HXB HWB ⊢
 have x0 : ∀ y : Blw W1,y.w.cell? ⟨w.heap.size,0,none⟩ = some (.int .i64 x.f0):=Blw.cell ((blk_cell HXB.out 0).trans rfl)
 have x1 : ∀ y : Blw W1,y.w.cell? ⟨w.heap.size,1,none⟩ = some (.int .i64 x.f1):=Blw.cell ((blk_cell HXB.out 1).trans rfl)
 have x2 : ∀ y : Blw W1,y.w.cell? ⟨w.heap.size,2,none⟩ = some (.int .i64 x.f2):=Blw.cell ((blk_cell HXB.out 2).trans rfl)
 have x3 : ∀ y : Blw W1,y.w.cell? ⟨w.heap.size,3,none⟩ = some (.int .i64 x.f3):=Blw.cell ((blk_cell HXB.out 3).trans rfl)
 refine wp_region_blw (by kernel_rfl) (by kernel_rfl) ?_
 repeat (go_big_quiet_step (exact Calls.blw (nb_call _ _ _ (by decide))))
 refine wpQuiet_nil ?_
 intro _ hw'
 obtain ⟨xq,rfl⟩:=hw'
 have HXQ:=qb7 (below_then HWB.out HWB.out.size xq.h)
 clear x0 x1 x2 x3
 go_wp2_with fail
 go_ret
 exact ⟨rfl,HXQ.out⟩
set_option maxHeartbeats 20000000 in
set_option maxRecDepth 100000 in
theorem ansT_size (x : S75) : (ansT x).size = 10:=by unfold ansT;simp only [ByteArray.size_append,nb1_size,nb2_size,nb3_size,nb4_size]
set_option maxHeartbeats 20000000 in
set_option maxRecDepth 100000 in
theorem seenT_size (x : S77) : (seenT x).size = 13:=by unfold seenT;simp only [ByteArray.size_append,nb1_size,nb2_size,ansT_size]
set_option maxHeartbeats 20000000 in
set_option maxRecDepth 100000 in
theorem waiterT_size (x : S73) : (waiterT x).size = 3:=by unfold waiterT;simp only [ByteArray.size_append,nb1_size,nb2_size]
set_option maxHeartbeats 20000000 in
set_option maxRecDepth 100000 in
theorem lockH_size (x : S70) : (lockH x).size = 11 + x.f0.size:=by unfold lockH;simp only [ByteArray.size_append,nb1_size,nb2_size,nb3_size,nb4_size];omega
set_option maxHeartbeats 20000000 in
set_option maxRecDepth 100000 in
theorem ba_ext_ {a b : ByteArray} (h : a.data.toList = b.data.toList) : a = b:=by
 obtain ⟨⟨a⟩⟩:=a
 obtain ⟨⟨b⟩⟩:=b
 simp only at h
 rw [h]
set_option maxHeartbeats 20000000 in
set_option maxRecDepth 100000 in
theorem ba_app_ (a b : ByteArray) : (a ++ b).data.toList = a.data.toList ++ b.data.toList:=by simp
set_option maxHeartbeats 20000000 in
set_option maxRecDepth 100000 in
theorem ba_assoc_ (a b c : ByteArray) : a ++ b ++ c = a ++ (b ++ c):=by
 apply ba_ext_
 simp
set_option maxHeartbeats 20000000 in
set_option maxRecDepth 100000 in
theorem ba_nil_ (a : ByteArray) : a ++ (⟨#[]⟩ : ByteArray) = a:=by apply ba_ext_;simp
set_option maxHeartbeats 20000000 in
set_option maxRecDepth 100000 in
theorem cat_cons (a : ByteArray) (l : List ByteArray) : catT (a :: l) = a ++ catT l:=rfl
set_option maxHeartbeats 20000000 in
set_option maxRecDepth 100000 in
theorem cat_drop {α : Type} (f : α → ByteArray) (l : List α) (i : Nat) (hi : i < l.length) : catT ((l.drop i).map f) = f l[i] ++ catT ((l.drop (i + 1)).map f):=by
 rw [List.drop_eq_getElem_cons hi,sH,cat_cons]
set_option maxHeartbeats 20000000 in
set_option maxRecDepth 100000 in
theorem cat_end {α : Type} (f : α → ByteArray) (l : List α) (i : Nat) (hi : l.length ≤ i) : catT ((l.drop i).map f) = ⟨#[]⟩:=by
 rw [List.drop_eq_nil_of_le hi]
 rfl
set_option maxHeartbeats 20000000 in
set_option maxRecDepth 100000 in
theorem rdW_get (l : List S73) (i : Nat) (hi : i < l.length) : rd_T73 l (i : Int) = l[i]:=by
 unfold rd_T73
 simp [List.getD_eq_getElem?_getD,hi]
set_option maxHeartbeats 20000000 in
set_option maxRecDepth 100000 in
theorem rdL_get (l : List S70) (i : Nat) (hi : i < l.length) : rd_T70 l (i : Int) = l[i]:=by
 unfold rd_T70
 simp [List.getD_eq_getElem?_getD,hi]
set_option maxHeartbeats 20000000 in
set_option maxRecDepth 100000 in
theorem rdN_get (l : List S77) (i : Nat) (hi : i < l.length) : rd_T77 l (i : Int) = l[i]:=by
 unfold rd_T77
 simp [List.getD_eq_getElem?_getD,hi]
set_option maxHeartbeats 20000000 in
set_option maxRecDepth 100000 in
theorem textT_calls (t0 t1 : Int) (A2 A3 : Option Addr) (c2 c3 : Nat) (l2 : List S70) (l3 : List S77) (w : World) (hr2 : Kd.C k70 w A2 l2.length l2) (hr3 : Kd.C k77 w A3 l3.length l3)
  (h2 : l2.length ≤ 4) (h3 : l3.length ≤ 6) (hy : ∀ y ∈ l2,y.f0.size ≤ 12 ∧ y.f4.length ≤ 4) :
  Calls Try.prog 52 #[.agg #[.int .i64 t0,.int .i64 t1,.slice A2 l2.length c2,.slice A3 l3.length c3]] w fun e w' => e = .returned (.string (tableT t0 t1 l2 l3)) ∧ Below w.heap.size w w':=by
 have HR2:=qb7 hr2
 have HR3:=qb7 hr3
 have HY:=qb7 hy
 have HG0:=qb7 (heap_alloc_new w (.cells #[.int .i64 t0,.int .i64 t1,.slice A2 l2.length c2,.slice A3 l3.length c3] 31 (0,0)))
 have HB0:=qb7 ((Below.refl _ w).alloc (Nat.le_refl _) (.cells #[.int .i64 t0,.int .i64 t1,.slice A2 l2.length c2,.slice A3 l3.length c3] 31 (0,0)))
 clear hr2 hr3 hy
 have a0:=nb4_size t0
 have a1:=nb3_size t1
 have a2:=nb1_size (l2.length : Int)
 go_enter Try.func52,Try.ntmps52
 go_upto_region 1 with fail
 generalize w.alloc (.cells #[.int .i64 t0,.int .i64 t1,.slice A2 l2.length c2,.slice A3 l3.length c3] 31 (0,0)) = W1 at HG0 HB0 ⊢
 have x0 : ∀ y : Blw W1,y.w.cell? ⟨w.heap.size,0,none⟩ = some (.int .i64 t0):=Blw.cell ((blk_cell HG0.out 0).trans rfl)
 have x1 : ∀ y : Blw W1,y.w.cell? ⟨w.heap.size,1,none⟩ = some (.int .i64 t1):=Blw.cell ((blk_cell HG0.out 1).trans rfl)
 have x2 : ∀ y : Blw W1,y.w.cell? ⟨w.heap.size,2,none⟩ = some (.slice A2 l2.length c2):=Blw.cell ((blk_cell HG0.out 2).trans rfl)
 refine wp_region_blw (by kernel_rfl) (by kernel_rfl) ?_
 repeat (go_big_quiet_step (exact Calls.blw (nb_call _ _ _ (by decide))))
 refine wpQuiet_nil ?_
 intro _ hw'
 obtain ⟨xq,rfl⟩:=hw'
 have HB1:=qb7 (below_then HB0.out HB0.out.size xq.h)
 have HG1:=qb7 (blk_below HG0.out xq.h)
 clear x0 x1 x2 HG0 HB0 a0 a1 a2
 generalize xq.w = W2 at HB1 HG1 ⊢
 have x2 : W2.cell? ⟨w.heap.size,2,none⟩ = some (.slice A2 l2.length c2):=(blk_cell HG1.out 2).trans rfl
 have H0 : Aside0 ((nb 4 t0 ++ nb 3 t1 ++ nb 1 (l2.length : Int)) ++ catT ((l2.drop 0).map lockT) = headT t0 t1 l2.length ++ catT (l2.map lockT)):=⟨rfl⟩
 have hs0 : (nb 4 t0 ++ nb 3 t1 ++ nb 1 (l2.length : Int)).size ≤ 8 + 40 * 0:=by simp only [ByteArray.size_append,nb1_size,nb3_size,nb4_size];omega
 have HS0:=qb7 hs0
 clear hs0
 go_wp2_with fail
 clear x2
 generalize nb 4 t0 ++ nb 3 t1 ++ nb 1 (l2.length : Int) = out0 at H0 HS0 ⊢
 go_loopg [3,25] (l2.length) (fun g v3 v25 wx => ∃ (i : Nat) (out : ByteArray),v3 = .string out ∧ v25 = .int .i64 i ∧ i ≤ l2.length ∧ Aside0 (i + g = l2.length) ∧ Aside0 (out.size ≤ 8 + 40 * i) ∧ Aside0 (out ++ catT ((l2.drop i).map lockT) = headT t0 t1 l2.length ++ catT (l2.map lockT)) ∧ Aside0 (wx.heap[w.heap.size]? = some (.cells #[.int .i64 t0,.int .i64 t1,.slice A2 l2.length c2,.slice A3 l3.length c3] 31 (0,0))) ∧ Aside0 (Below w.heap.size w wx))
 case atStart => exact ⟨0,out0,rfl,rfl,Nat.zero_le _,⟨by omega⟩,HS0,H0,HG1,HB1⟩
 case round =>
  clear HB1 HG1 H0 HS0
  obtain ⟨wo,rfl⟩ : ∃ wo : World,wo = wr:=⟨_,rfl⟩
  obtain ⟨go,rfl⟩ : ∃ go : Nat,go = gk:=⟨_,rfl⟩
  obtain ⟨i,out,rfl,rfl,hi,HM,HS,HE,HG,HB⟩:=hrel
  by_cases hlt : i < l2.length
  ·
   obtain ⟨ad,A4,c4,eA,y0,y1,y2,y3,y4,-,hr4⟩:=at_T70 (Kd.C_below HR2.out HB.out) (i : Int) (by omega) (by omega)
   cases eA
   simp only [Int.toNat_natCast] at y0 y1 y2 y3 y4
   have hy1:=HY.out _ (List.getElem_mem hlt)
   rw [← rdL_get l2 i hlt] at hy1
   have hn:=hy1.1
   have hw4:=hy1.2
   clear hy1
   have p0 : ((i : Int) < (l2.length : Int)) = True:=eq_true (by omega)
   have p1 : (0 ≤ (i : Int)) = True:=eq_true (by omega)
   have p2 : decide ((i : Int) < (l2.length : Int)) = true:=decide_eq_true (by omega)
   have hso:=HS.out
   have hso2 : out.size ≤ 200:=by omega
   clear hso
   have a0:=nb1_size ((rd_T70 l2 i).f0.size : Int)
   have a1:=nb3_size (rd_T70 l2 i).f1
   have a2:=nb2_size (wrap64 ((rd_T70 l2 i).f2 + 1))
   have a3:=nb4_size (rd_T70 l2 i).f3
   have a4:=nb1_size ((rd_T70 l2 i).f4.length : Int)
   go_upto_region 5 with fail
   have HXB:=qb7 (heap_alloc_new wo (.cells #[.string (rd_T70 l2 i).f0,.int .i64 (rd_T70 l2 i).f1,.int .i64 (rd_T70 l2 i).f2,.int .i64 (rd_T70 l2 i).f3,.slice A4 (rd_T70 l2 i).f4.length c4] 70 (0,0)))
   have HWB:=qb7 ((Below.refl wo.heap.size wo).alloc (Nat.le_refl _) (.cells #[.string (rd_T70 l2 i).f0,.int .i64 (rd_T70 l2 i).f1,.int .i64 (rd_T70 l2 i).f2,.int .i64 (rd_T70 l2 i).f3,.slice A4 (rd_T70 l2 i).f4.length c4] 70 (0,0)))
   have hsz : w.heap.size < wo.heap.size:=(Array.getElem?_eq_some_iff.1 HG.out).1
   have HG1:=qb7 (blk_below HG.out HWB.out)
   have HB1:=qb7 (below_then HB.out HB.out.size HWB.out)
   have HR4:=qb7 (Kd.C_below hr4 HWB.out)
   clear hr4 y0 y1 y2 y3 y4 HG HB HWB
   generalize wo.alloc (.cells #[.string (rd_T70 l2 i).f0,.int .i64 (rd_T70 l2 i).f1,.int .i64 (rd_T70 l2 i).f2,.int .i64 (rd_T70 l2 i).f3,.slice A4 (rd_T70 l2 i).f4.length c4] 70 (0,0)) = W1 at HXB HG1 HB1 HR4 ⊢
   have x0 : ∀ y : Blw W1,y.w.cell? ⟨wo.heap.size,0,none⟩ = some (.string (rd_T70 l2 i).f0):=Blw.cell ((blk_cell HXB.out 0).trans rfl)
   have x1 : ∀ y : Blw W1,y.w.cell? ⟨wo.heap.size,1,none⟩ = some (.int .i64 (rd_T70 l2 i).f1):=Blw.cell ((blk_cell HXB.out 1).trans rfl)
   have x2 : ∀ y : Blw W1,y.w.cell? ⟨wo.heap.size,2,none⟩ = some (.int .i64 (rd_T70 l2 i).f2):=Blw.cell ((blk_cell HXB.out 2).trans rfl)
   have x3 : ∀ y : Blw W1,y.w.cell? ⟨wo.heap.size,3,none⟩ = some (.int .i64 (rd_T70 l2 i).f3):=Blw.cell ((blk_cell HXB.out 3).trans rfl)
   have x4 : ∀ y : Blw W1,y.w.cell? ⟨wo.heap.size,4,none⟩ = some (.slice A4 (rd_T70 l2 i).f4.length c4):=Blw.cell ((blk_cell HXB.out 4).trans rfl)
   refine wp_region_blw (by kernel_rfl) (by kernel_rfl) ?_
   repeat (go_big_quiet_step (exact Calls.blw (nb_call _ _ _ (by decide))))
   refine wpQuiet_nil ?_
   intro _ hw'
   obtain ⟨xq,rfl⟩:=hw'
   have HB2:=qb7 (below_then HB1.out HB1.out.size xq.h)
   have HG2:=qb7 (blk_below HG1.out xq.h)
   have HX2:=qb7 (blk_below HXB.out xq.h)
   have HR5:=qb7 (Kd.C_below HR4.out xq.h)
   clear x0 x1 x2 x3 x4 HB1 HG1 HXB HR4 a0 a1 a2 a3 a4
   generalize xq.w = W2 at HB2 HG2 HX2 HR5 ⊢
   have x4 : W2.cell? ⟨wo.heap.size,4,none⟩ = some (.slice A4 (rd_T70 l2 i).f4.length c4):=(blk_cell HX2.out 4).trans rfl
   obtain ⟨out1,ho1⟩ : ∃ o,o = out ++ (nb 1 ((rd_T70 l2 i).f0.size : Int) ++ (rd_T70 l2 i).f0 ++ nb 3 (rd_T70 l2 i).f1 ++ nb 2 (wrap64 ((rd_T70 l2 i).f2 + 1)) ++ nb 4 (rd_T70 l2 i).f3 ++ nb 1 ((rd_T70 l2 i).f4.length : Int)):=⟨_,rfl⟩
   rw [← ho1]
   have HO1 : Aside0 (out1 = out ++ lockH (rd_T70 l2 i)):=⟨ho1⟩
   clear ho1
   go_wp2_with fail
   clear x4
   have hs1 : Aside0 (out1.size ≤ 31 + 40 * i):=⟨by have h1:=HS.out;rw [HO1.out,ByteArray.size_append,lockH_size];omega⟩
   clear hso2
   go_loopg [3,59] ((rd_T70 l2 i).f4.length) (fun g v3 v59 wx => ∃ (k : Nat) (o : ByteArray),v3 = .string o ∧ v59 = .int .i64 k ∧ k ≤ (rd_T70 l2 i).f4.length ∧ Aside0 (k + g = (rd_T70 l2 i).f4.length) ∧ Aside0 (o.size ≤ 31 + 40 * i + 3 * k) ∧ Aside0 (o ++ catT (((rd_T70 l2 i).f4.drop k).map waiterT) = out1 ++ catT ((rd_T70 l2 i).f4.map waiterT)) ∧ Aside0 (wx.heap[w.heap.size]? = some (.cells #[.int .i64 t0,.int .i64 t1,.slice (some ad) l2.length c2,.slice A3 l3.length c3] 31 (0,0))) ∧ Aside0 (Below w.heap.size w wx) ∧ Aside0 (Kd.C k73 wx A4 (rd_T70 l2 i).f4.length (rd_T70 l2 i).f4))
   case atStart => exact ⟨0,out1,rfl,rfl,Nat.zero_le _,⟨by omega⟩,hs1,⟨rfl⟩,HG2,HB2,HR5⟩
   case round =>
    clear HB2 HG2 HX2 HR5 hs1
    obtain ⟨wi,rfl⟩ : ∃ wi : World,wi = wr:=⟨_,rfl⟩
    obtain ⟨k,o,rfl,rfl,hk,HM2,HS2,HE2,HG2,HB2,HR5⟩:=hrel
    by_cases hkl : k < (rd_T70 l2 i).f4.length
    ·
     obtain ⟨ad4,eA4,z0,z1⟩:=at_T73 HR5.out (k : Int) (by omega) (by omega)
     cases eA4
     simp only [Int.toNat_natCast] at z0 z1
     have q0 : ((k : Int) < ((rd_T70 l2 i).f4.length : Int)) = True:=eq_true (by omega)
     have q1 : (0 ≤ (k : Int)) = True:=eq_true (by omega)
     have q2 : decide ((k : Int) < ((rd_T70 l2 i).f4.length : Int)) = true:=decide_eq_true (by omega)
     have hso:=HS2.out
     have hso2 : o.size ≤ 300:=by omega
     clear hso
     have a0:=nb1_size (rd_T73 (rd_T70 l2 i).f4 k).f0
     have a1:=nb2_size (rd_T73 (rd_T70 l2 i).f4 k).f1
     go_upto_region 9 with fail
     have HXB:=qb7 (heap_alloc_new wi (.cells #[.int .i64 (rd_T73 (rd_T70 l2 i).f4 k).f0,.int .i64 (rd_T73 (rd_T70 l2 i).f4 k).f1] 73 (0,0)))
     have HWB:=qb7 ((Below.refl wi.heap.size wi).alloc (Nat.le_refl _) (.cells #[.int .i64 (rd_T73 (rd_T70 l2 i).f4 k).f0,.int .i64 (rd_T73 (rd_T70 l2 i).f4 k).f1] 73 (0,0)))
     have HG3:=qb7 (blk_below HG2.out HWB.out)
     have HB3:=qb7 (below_then HB2.out HB2.out.size HWB.out)
     have HR6:=qb7 (Kd.C_below HR5.out HWB.out)
     clear z0 z1 HG2 HB2 HR5 HWB
     generalize wi.alloc (.cells #[.int .i64 (rd_T73 (rd_T70 l2 i).f4 k).f0,.int .i64 (rd_T73 (rd_T70 l2 i).f4 k).f1] 73 (0,0)) = W3 at HXB HG3 HB3 HR6 ⊢
     have x0 : ∀ y : Blw W3,y.w.cell? ⟨wi.heap.size,0,none⟩ = some (.int .i64 (rd_T73 (rd_T70 l2 i).f4 k).f0):=Blw.cell ((blk_cell HXB.out 0).trans rfl)
     have x1 : ∀ y : Blw W3,y.w.cell? ⟨wi.heap.size,1,none⟩ = some (.int .i64 (rd_T73 (rd_T70 l2 i).f4 k).f1):=Blw.cell ((blk_cell HXB.out 1).trans rfl)
     refine wp_region_blw (by kernel_rfl) (by kernel_rfl) ?_
     repeat (go_big_quiet_step (exact Calls.blw (nb_call _ _ _ (by decide))))
     refine wpQuiet_nil ?_
     intro _ hw'
     obtain ⟨xq,rfl⟩:=hw'
     have HB4:=qb7 (below_then HB3.out HB3.out.size xq.h)
     have HG4:=qb7 (blk_below HG3.out xq.h)
     have HR7:=qb7 (Kd.C_below HR6.out xq.h)
     clear x0 x1 HB3 HG3 HXB HR6 a0 a1 hso2
     go_wp2_with fail
     go_roundg (gk - 1)
     case measure => have:=HM2.out;omega
     case rel => exact ⟨k + 1,o ++ waiterT (rd_T73 (rd_T70 l2 i).f4 k),rfl,by go_num,by omega,⟨by have:=HM2.out;omega⟩,⟨by have:=HS2.out;rw [ByteArray.size_append,waiterT_size];omega⟩,⟨by rw [← HE2.out,cat_drop waiterT _ k hkl,rdW_get _ k hkl,ba_assoc_]⟩,HG4,HB4,HR7⟩
    ·
     obtain rfl : k = (rd_T70 l2 i).f4.length:=by omega
     go_wp2_with fail
     go_roundg (go - 1)
     case measure => have:=HM.out;omega
     case rel => exact ⟨i + 1,o,rfl,by go_num,by omega,⟨by have:=HM.out;omega⟩,⟨by have:=HS2.out;omega⟩,⟨by
      have e:=HE2.out
      rw [cat_end _ _ _ (Nat.le_refl _),ba_nil_] at e
      rw [← HE.out,cat_drop lockT l2 i hlt,e,HO1.out,← rdL_get l2 i hlt]
      unfold lockT
      simp only [ba_assoc_]⟩,HG2,HB2⟩
  ·
   obtain rfl : i = l2.length:=by omega
   have x3 : wo.cell? ⟨w.heap.size,3,none⟩ = some (.slice A3 l3.length c3):=(blk_cell HG.out 3).trans rfl
   have a0:=nb1_size (l3.length : Int)
   have hso:=HS.out
   have hso2 : out.size ≤ 200:=by omega
   clear hso
   have HE' : Aside0 (out = headT t0 t1 l2.length ++ catT (l2.map lockT)):=⟨by have e:=HE.out;rw [cat_end _ _ _ (Nat.le_refl _),ba_nil_] at e;exact e⟩
   clear HE HM HY
   go_wp2_with fail
   refine (nb_call _ _ _ (by decide)).mono ?_
   rintro e w1 ⟨rfl,hb⟩
   have HB1:=qb7 (below_then HB.out HB.out.size hb)
   have HG1:=qb7 (blk_below HG.out hb)
   replace x3 : w1.cell? ⟨w.heap.size,3,none⟩ = some (.slice A3 l3.length c3):=(blk_cell HG1.out 3).trans rfl
   clear hb HB HG
   go_wp2_with fail
   have H1 : Aside0 ((out ++ nb 1 (l3.length : Int)) ++ catT ((l3.drop 0).map seenT) = tableT t0 t1 l2 l3):=⟨by rw [HE'.out,List.drop_zero];rfl⟩
   have HS1 : Aside0 ((out ++ nb 1 (l3.length : Int)).size ≤ 201 + 13 * 0):=⟨by rw [ByteArray.size_append,nb1_size];omega⟩
   clear x3 a0 hso2 HE' HS
   generalize out ++ nb 1 (l3.length : Int) = out1 at H1 HS1 ⊢
   go_loopg [3,83] (l3.length) (fun g v3 v83 wx => ∃ (i : Nat) (out : ByteArray),v3 = .string out ∧ v83 = .int .i64 i ∧ i ≤ l3.length ∧ Aside0 (i + g = l3.length) ∧ Aside0 (out.size ≤ 201 + 13 * i) ∧ Aside0 (out ++ catT ((l3.drop i).map seenT) = tableT t0 t1 l2 l3) ∧ Aside0 (Below w.heap.size w wx))
   case atStart => exact ⟨0,out1,rfl,rfl,Nat.zero_le _,⟨by omega⟩,HS1,H1,HB1⟩
   case round =>
    clear HB1 HG1 H1 HS1
    obtain ⟨wn,rfl⟩ : ∃ wn : World,wn = wr:=⟨_,rfl⟩
    obtain ⟨i,out,rfl,rfl,hi,HM,HS,HE,HB⟩:=hrel
    by_cases hlt : i < l3.length
    ·
     obtain ⟨ad,eA,y0,y1,y2,y3,y4,y5⟩:=at_T77 (Kd.C_below HR3.out HB.out) (i : Int) (by omega) (by omega)
     cases eA
     simp only [Int.toNat_natCast] at y0 y1 y2 y3 y4 y5
     have p0 : ((i : Int) < (l3.length : Int)) = True:=eq_true (by omega)
     have p1 : (0 ≤ (i : Int)) = True:=eq_true (by omega)
     have p2 : decide ((i : Int) < (l3.length : Int)) = true:=decide_eq_true (by omega)
     have hso:=HS.out
     have hso2 : out.size ≤ 300:=by omega
     clear hso
     have a0:=nb1_size (rd_T77 l3 i).f0
     have a1:=nb2_size (rd_T77 l3 i).f1
     have a2:=ansT_size (rd_T77 l3 i).f2
     go_upto_region 16 with fail
     have HXB:=qb7 (heap_alloc_new wn (.cells #[.int .i64 (rd_T77 l3 i).f0,.int .i64 (rd_T77 l3 i).f1,.int .i64 (rd_T77 l3 i).f2.f0,.int .i64 (rd_T77 l3 i).f2.f1,.int .i64 (rd_T77 l3 i).f2.f2,.int .i64 (rd_T77 l3 i).f2.f3] 77 (0,0)))
     have HWB:=qb7 ((Below.refl wn.heap.size wn).alloc (Nat.le_refl _) (.cells #[.int .i64 (rd_T77 l3 i).f0,.int .i64 (rd_T77 l3 i).f1,.int .i64 (rd_T77 l3 i).f2.f0,.int .i64 (rd_T77 l3 i).f2.f1,.int .i64 (rd_T77 l3 i).f2.f2,.int .i64 (rd_T77 l3 i).f2.f3] 77 (0,0)))
     have HB1:=qb7 (below_then HB.out HB.out.size HWB.out)
     clear y0 y1 y2 y3 y4 y5 HB HWB
     generalize wn.alloc (.cells #[.int .i64 (rd_T77 l3 i).f0,.int .i64 (rd_T77 l3 i).f1,.int .i64 (rd_T77 l3 i).f2.f0,.int .i64 (rd_T77 l3 i).f2.f1,.int .i64 (rd_T77 l3 i).f2.f2,.int .i64 (rd_T77 l3 i).f2.f3] 77 (0,0)) = W1 at HXB HB1 ⊢
     have x0 : ∀ y : Blw W1,y.w.cell? ⟨wn.heap.size,0,none⟩ = some (.int .i64 (rd_T77 l3 i).f0):=Blw.cell ((blk_cell HXB.out 0).trans rfl)
     have x1 : ∀ y : Blw W1,y.w.cell? ⟨wn.heap.size,1,none⟩ = some (.int .i64 (rd_T77 l3 i).f1):=Blw.cell ((blk_cell HXB.out 1).trans rfl)
     have x2 : ∀ y : Blw W1,y.w.cell? ⟨wn.heap.size,2,none⟩ = some (.int .i64 (rd_T77 l3 i).f2.f0):=Blw.cell ((blk_cell HXB.out 2).trans rfl)
     have x3 : ∀ y : Blw W1,y.w.cell? ⟨wn.heap.size,3,none⟩ = some (.int .i64 (rd_T77 l3 i).f2.f1):=Blw.cell ((blk_cell HXB.out 3).trans rfl)
     have x4 : ∀ y : Blw W1,y.w.cell? ⟨wn.heap.size,4,none⟩ = some (.int .i64 (rd_T77 l3 i).f2.f2):=Blw.cell ((blk_cell HXB.out 4).trans rfl)
     have x5 : ∀ y : Blw W1,y.w.cell? ⟨wn.heap.size,5,none⟩ = some (.int .i64 (rd_T77 l3 i).f2.f3):=Blw.cell ((blk_cell HXB.out 5).trans rfl)
     refine wp_region_blw (by kernel_rfl) (by kernel_rfl) ?_
     repeat (go_big_quiet_step (first|exact Calls.blw (ansT_calls (rd_T77 l3 i).f2 _)|exact Calls.blw (nb_call _ _ _ (by decide))))
     refine wpQuiet_nil ?_
     intro _ hw'
     obtain ⟨xq,rfl⟩:=hw'
     have HB2:=qb7 (below_then HB1.out HB1.out.size xq.h)
     clear x0 x1 x2 x3 x4 x5 HB1 HXB a0 a1 a2 hso2
     go_wp2_with fail
     go_roundg (gk - 1)
     case measure => have:=HM.out;omega
     case rel => exact ⟨i + 1,out ++ seenT (rd_T77 l3 i),rfl,by go_num,by omega,⟨by have:=HM.out;omega⟩,⟨by have:=HS.out;rw [ByteArray.size_append,seenT_size];omega⟩,⟨by rw [← HE.out,cat_drop seenT _ i hlt,rdN_get _ i hlt,ba_assoc_]⟩,HB2⟩
    ·
     obtain rfl : i = l3.length:=by omega
     have HE' : Aside0 (out = tableT t0 t1 l2 l3):=⟨by have e:=HE.out;rw [cat_end _ _ _ (Nat.le_refl _),ba_nil_] at e;exact e⟩
     go_wp2_with fail
     go_ret
     exact ⟨congrArg (fun b => Ending.returned (Value.string b)) HE'.out,HB.out⟩
end
def impl_tableText.f (a0_0 : Int) (a0_1 : Int) (l0_2 : List S70) (l0_3 : List S77) : Option ByteArray:=if (decide (l0_2.length ≤ 4) && (decide (l0_3.length ≤ 6) && l0_2.all (fun y => decide (y.f0.size ≤ 12) && decide (y.f4.length ≤ 4)))) = true then some (tableT a0_0 a0_1 l0_2 l0_3) else none
theorem impl_tableText.calls (a0_0 : Int) (a0_1 : Int) (A0_2 : Option Addr) (c0_2 : Nat) (l0_2 : List S70) (A0_3 : Option Addr) (c0_3 : Nat) (l0_3 : List S77) (r : ByteArray) (w : World) (hr0_2 : Kd.C k70 w A0_2 l0_2.length l0_2) (hc0_2 : l0_2.length ≤ c0_2) (hr0_3 : Kd.C k77 w A0_3 l0_3.length l0_3) (hc0_3 : l0_3.length ≤ c0_3) (h : impl_tableText.f a0_0 a0_1 l0_2 l0_3 = some r) :
  Calls Try.prog 52 #[.agg #[.int .i64 a0_0,.int .i64 a0_1,.slice A0_2 l0_2.length c0_2,.slice A0_3 l0_3.length c0_3]] w fun e w' => e = .returned (.string r) ∧ Below w.heap.size w w':=by
 by_cases hs : (decide (l0_2.length ≤ 4) && (decide (l0_3.length ≤ 6) && l0_2.all (fun y => decide (y.f0.size ≤ 12) && decide (y.f4.length ≤ 4)))) = true
 ·
  rw [impl_tableText.f,if_pos hs] at h
  obtain rfl:=sO h
  simp only [Bool.and_eq_true,decide_eq_true_eq,List.all_eq_true] at hs
  exact textT_calls a0_0 a0_1 A0_2 A0_3 c0_2 c0_3 l0_2 l0_3 w hr0_2 hr0_3 hs.1 hs.2.1 hs.2.2
 ·
  rw [impl_tableText.f,if_neg hs] at h
  cases h


/-! ### impl_TableBytes: function 16 -/
def impl_TableBytes.f (a0_0 : Int) (a0_1 : Int) (l0_2 : List (S70)) (l0_3 : List (S77)) : Option (List Int × Int):=(impl_TableOK.f a0_0 a0_1 l0_2 l0_3).bind fun t313 => (if t313 = true then ((impl_tableText.f a0_0 a0_1 l0_2 l0_3).bind fun t314 => (if t314.size ≤ 9223372036854775807 then (some ((bytesOf t314),0)) else (none))) else (some (([] : List Int),1)))
set_option maxHeartbeats 8000000 in
set_option maxRecDepth 100000 in
theorem impl_TableBytes.calls (a0_0 : Int) (a0_1 : Int) (A0_2 : Option Addr) (c0_2 : Nat) (l0_2 : List (S70)) (A0_3 : Option Addr) (c0_3 : Nat) (l0_3 : List (S77)) (r1 : List Int) (r2 : Int) (w : World) (hr0_2 : Kd.C k70 w A0_2 l0_2.length l0_2) (hc0_2 : l0_2.length ≤ c0_2) (hr0_3 : Kd.C k77 w A0_3 l0_3.length l0_3) (hc0_3 : l0_3.length ≤ c0_3) (h : impl_TableBytes.f a0_0 a0_1 l0_2 l0_3 = some (r1,r2)) :
  Calls Try.prog 16 #[.agg #[.int .i64 a0_0,.int .i64 a0_1,.slice A0_2 l0_2.length c0_2,.slice A0_3 l0_3.length c0_3]] w fun e w' => ∃ v0_ : Value,e = .returned (.tuple #[v0_,.int .i64 r2]) ∧ Kd.R (Kd.int .u8) 5 w' w.heap.size (fun _ => True) v0_ r1 ∧ Below w.heap.size w w':=by
 have hu31:=Try.underlying31
 have HR0_2:=qb7 hr0_2
 have HC0_2:=qb7 hc0_2
 clear hr0_2 hc0_2
 have HR0_3:=qb7 hr0_3
 have HC0_3:=qb7 hc0_3
 clear hr0_3 hc0_3
 have HB:=qb7 (Below.refl w.heap.size w)
 have H : ((impl_TableOK.f a0_0 a0_1 l0_2 l0_3).bind fun t313 => (if t313 = true then ((impl_tableText.f a0_0 a0_1 l0_2 l0_3).bind fun t314 => (if t314.size ≤ 9223372036854775807 then (some ((bytesOf t314),0)) else (none))) else (some (([] : List Int),1)))) = some (r1,r2):=h
 clear h
 replace H:=Option.bind_eq_some_iff.mp H
 obtain ⟨t313,A20,H⟩:=H
 replace H : (if t313 = true then ((impl_tableText.f a0_0 a0_1 l0_2 l0_3).bind fun t314 => (if t314.size ≤ 9223372036854775807 then (some ((bytesOf t314),0)) else (none))) else (some (([] : List Int),1))) = some (r1,r2):=H
 have A2:=qb7 A20
 clear A20
 by_cases c3 : t313 = true
 ·
  subst c3
  have H1 : ((impl_tableText.f a0_0 a0_1 l0_2 l0_3).bind fun t314 => (if t314.size ≤ 9223372036854775807 then (some ((bytesOf t314),0)) else (none))) = some (r1,r2):=by rw [if_pos rfl] at H;exact H
  clear H
  have H:=H1
  clear H1
  replace H:=Option.bind_eq_some_iff.mp H
  obtain ⟨t314,A40,H⟩:=H
  replace H : (if t314.size ≤ 9223372036854775807 then (some ((bytesOf t314),0)) else (none)) = some (r1,r2):=H
  have A4:=qb7 A40
  clear A40
  by_cases c5 : t314.size ≤ 9223372036854775807
  ·
   rw [if_pos c5] at H
   have c5b0:=eq_true c5
   have c5b1 : decide (t314.size ≤ 9223372036854775807) = true:=decide_eq_true c5
   try have c5b2 : (9223372036854775807 < t314.size) = False:=eq_false (Nat.not_lt.2 c5)
   clear c5
   obtain ⟨y315,hy315⟩ : ∃ y_ : List Int,y_ = (bytesOf t314):=⟨_,rfl⟩
   replace H : (some (y315,0)) = some (r1,r2):=by first|(rw [hy315];with_reducible exact H)|(have H2_:=(Option.bind_some _ _).symm.trans H;rw [hy315];with_reducible exact H2_)|(have H2_:=(Option.bind_some _ _).symm.trans H;with_reducible exact H2_)|with_reducible exact H|(rw [hy315];exact H)|exact H
   have Ny315:=qb7 hy315
   clear hy315
   simp only [Option.some.injEq,Prod.mk.injEq] at H
   obtain ⟨rfl,rfl⟩:=H
   go_enter Try.func16,Try.ntmps16
   go_wp2_with (first|((with_reducible refine gate_dst (N:=1) rfl ?_);refine box_event ?hg (N:=1) ?hd (cs:=#[.int .i64 a0_0,.int .i64 a0_1,.slice A0_2 l0_2.length c0_2,.slice A0_3 l0_3.length c0_3]) (t:=31) ?hr ?_;(case hd => rfl);(case hg => rfl);(case hr => first|(go_simp;done)|(go_simp;rfl));intro gb312 hg w6 hbox hb;have n0_:=qb7 (sN (by repeat (first|(with_reducible first|exact HB.out|apply below_alloc|apply qa7|apply below_drew1)|exact HB.out)) hb);have n1_:=qb7 (hbox);have n2_:=qb7 ((by rw [hg];exact (below_size (by repeat (first|(with_reducible first|exact HB.out|apply below_alloc|apply qa7|apply below_drew1)|exact HB.out))) : w.heap.size ≤ gb312));have n3_:=qb7 ((by rw [hg];exact (below_size (by repeat (first|(with_reducible first|exact HB.out|apply below_alloc|apply qa7|apply below_drew1)|exact HB.out))) : w.heap.size ≤ gb312));clear HB;have HB:=n0_;have BK312:=n1_;have GW312:=n2_;have GE312:=n3_;clear n0_ n1_ n2_ n3_;clear hb hbox hg;have hcz7_0 : w6.cell? ⟨gb312,0,none⟩ = some (.int .i64 a0_0):=(blk_cell BK312.out 0).trans rfl;have hcz7_1 : w6.cell? ⟨gb312,1,none⟩ = some (.int .i64 a0_1):=(blk_cell BK312.out 1).trans rfl;have hcz7_2 : w6.cell? ⟨gb312,2,none⟩ = some (.slice A0_2 l0_2.length c0_2):=(blk_cell BK312.out 2).trans rfl;have hcz7_3 : w6.cell? ⟨gb312,3,none⟩ = some (.slice A0_3 l0_3.length c0_3):=(blk_cell BK312.out 3).trans rfl;have hfz7_0:=sJ BK312.out 0;have hfz7_1:=sJ BK312.out 1;have hfz7_2:=sJ BK312.out 2;have hfz7_3:=sJ BK312.out 3)|((with_reducible refine gate_callee (f:=11) rfl ?_);refine goesL_ (some 5) rfl rfl Try.func11 (by kernel_rfl) rfl #[.agg #[.int .i64 a0_0,.int .i64 a0_1,.slice A0_2 l0_2.length c0_2,.slice A0_3 l0_3.length c0_3]] rfl (by (try simp only [sE,sH,sI]);first|done|rfl|(simp only [sG,sF];rfl)) ?_;(with_reducible refine (impl_TableOK.calls a0_0 a0_1 _ _ l0_2 _ _ l0_3 true _ ?side1 ?side2 ?side3 ?side4 A2.out).mono ?_);(case side1 => repeat (first|exact (Kd.C_below HR0_2.out HB.out)|(with_reducible refine Kd.C_alloc ?_ _)|(with_reducible refine Kd.C_drewN ?_ _)|(with_reducible refine Kd.C_drew ?_)));(case side2 => exact HC0_2.out);(case side3 => repeat (first|exact (Kd.C_below HR0_3.out HB.out)|(with_reducible refine Kd.C_alloc ?_ _)|(with_reducible refine Kd.C_drewN ?_ _)|(with_reducible refine Kd.C_drew ?_)));(case side4 => exact HC0_3.out);rintro e w8 ⟨rfl,hb⟩;refine ⟨_,rfl,?_⟩;have n0_:=qb7 (blk_below (g:=gb312) (o:=.cells #[.int .i64 a0_0,.int .i64 a0_1,.slice A0_2 l0_2.length c0_2,.slice A0_3 l0_3.length c0_3] 31 (0,0)) (by (with_reducible repeat (first|apply blk_drewN|apply blk_drew|apply blk_alloc));exact BK312.out) hb);have n1_:=qb7 (sN (by repeat (first|(with_reducible first|exact HB.out|apply below_alloc|apply qa7|apply below_drew1|refine below_set ?_ GE312.out)|exact HB.out)) hb);clear BK312;clear HB;have BK312:=n0_;have HB:=n1_;clear n0_ n1_;(try clear hb);(try clear hb2);(try clear hk);(try clear hi);have hcz9_0 : w8.cell? ⟨gb312,0,none⟩ = some (.int .i64 a0_0):=(blk_cell BK312.out 0).trans rfl;have hcz9_1 : w8.cell? ⟨gb312,1,none⟩ = some (.int .i64 a0_1):=(blk_cell BK312.out 1).trans rfl;have hcz9_2 : w8.cell? ⟨gb312,2,none⟩ = some (.slice A0_2 l0_2.length c0_2):=(blk_cell BK312.out 2).trans rfl;have hcz9_3 : w8.cell? ⟨gb312,3,none⟩ = some (.slice A0_3 l0_3.length c0_3):=(blk_cell BK312.out 3).trans rfl;have hfz9_0:=sJ BK312.out 0;have hfz9_1:=sJ BK312.out 1;have hfz9_2:=sJ BK312.out 2;have hfz9_3:=sJ BK312.out 3)|((with_reducible refine gate_callee (f:=52) rfl ?_);refine goesL_ (some 8) rfl rfl Try.func52 (by kernel_rfl) rfl #[.agg #[.int .i64 a0_0,.int .i64 a0_1,.slice A0_2 l0_2.length c0_2,.slice A0_3 l0_3.length c0_3]] rfl (by (try simp only [sE,sH,sI]);first|done|rfl|(simp only [sG,sF];rfl)) ?_;(with_reducible refine (impl_tableText.calls a0_0 a0_1 _ _ l0_2 _ _ l0_3 t314 _ ?side1 ?side2 ?side3 ?side4 A4.out).mono ?_);(case side1 => repeat (first|exact (Kd.C_below HR0_2.out HB.out)|(with_reducible refine Kd.C_alloc ?_ _)|(with_reducible refine Kd.C_drewN ?_ _)|(with_reducible refine Kd.C_drew ?_)));(case side2 => exact HC0_2.out);(case side3 => repeat (first|exact (Kd.C_below HR0_3.out HB.out)|(with_reducible refine Kd.C_alloc ?_ _)|(with_reducible refine Kd.C_drewN ?_ _)|(with_reducible refine Kd.C_drew ?_)));(case side4 => exact HC0_3.out);rintro e w10 ⟨rfl,hb⟩;refine ⟨_,rfl,?_⟩;have n0_:=qb7 (blk_below (g:=gb312) (o:=.cells #[.int .i64 a0_0,.int .i64 a0_1,.slice A0_2 l0_2.length c0_2,.slice A0_3 l0_3.length c0_3] 31 (0,0)) (by (with_reducible repeat (first|apply blk_drewN|apply blk_drew|apply blk_alloc));exact BK312.out) hb);have n1_:=qb7 (sN (by repeat (first|(with_reducible first|exact HB.out|apply below_alloc|apply qa7|apply below_drew1|refine below_set ?_ GE312.out)|exact HB.out)) hb);clear BK312;clear HB;have BK312:=n0_;have HB:=n1_;clear n0_ n1_;(try clear hb);(try clear hb2);(try clear hk);(try clear hi))|((with_reducible refine gate_dst (N:=9) rfl ?_);refine R_bytes _ 5 rfl (N:=9) rfl 9 38 _ rfl t314 rfl Try.underlying9 Try.underlying38 Try.underlying5 (ok:=fun _ => True) trivial (sM (by first|(with_reducible assumption)|assumption)) (Below.refl _ _) (Nat.le_refl _) ?_;intro v316 w11 ho12 hb hg_ hnew_;clear hg_ hnew_;(first|rw [← Ny315.out] at ho12|(simp only [Int.reduceToNat] at ho12;rw [← Ny315.out] at ho12));have n0_:=qb7 (Kd.R_lower ho12 (below_size (by repeat (first|(with_reducible first|exact HB.out|apply below_alloc|apply qa7|apply below_drew1|refine below_set ?_ GE312.out)|exact HB.out))));have n1_:=qb7 (blk_below (g:=gb312) (o:=.cells #[.int .i64 a0_0,.int .i64 a0_1,.slice A0_2 l0_2.length c0_2,.slice A0_3 l0_3.length c0_3] 31 (0,0)) (by (with_reducible repeat (first|apply blk_drewN|apply blk_drew|apply blk_alloc));exact BK312.out) hb);have n2_:=qb7 (sN (by repeat (first|(with_reducible first|exact HB.out|apply below_alloc|apply qa7|apply below_drew1|refine below_set ?_ GE312.out)|exact HB.out)) hb);clear BK312;clear HB;have HO317:=n0_;have BK312:=n1_;have HB:=n2_;clear n0_ n1_ n2_;clear hb ho12))
   go_ret2
   exact ⟨_,by first|rfl|(simp [errW_none,errW_some] <;> rfl)|(simp [*,errW_none,errW_some] <;> rfl),by (with_reducible repeat (first|apply Kd.R_alloc|apply Kd.R_drewN|apply Kd.R_drew));exact HO317.out,by repeat (first|(with_reducible first|exact HB.out|apply below_alloc|apply qa7|apply below_drew1|refine below_set ?_ GE312.out)|exact HB.out)⟩
  ·
   rw [if_neg c5] at H
   exact absurd H (by simp)
 ·
  replace c3:=Bool.eq_false_iff.mpr c3
  subst c3
  have H1 : (some (([] : List Int),1)) = some (r1,r2):=by rw [if_neg (show ¬ (false = true) by decide)] at H;exact H
  clear H
  have H:=H1
  clear H1
  simp only [Option.some.injEq,Prod.mk.injEq] at H
  obtain ⟨rfl,rfl⟩:=H
  go_enter Try.func16,Try.ntmps16
  go_wp2_with (first|((with_reducible refine gate_dst (N:=1) rfl ?_);refine box_event ?hg (N:=1) ?hd (cs:=#[.int .i64 a0_0,.int .i64 a0_1,.slice A0_2 l0_2.length c0_2,.slice A0_3 l0_3.length c0_3]) (t:=31) ?hr ?_;(case hd => rfl);(case hg => rfl);(case hr => first|(go_simp;done)|(go_simp;rfl));intro gb312 hg w13 hbox hb;have n0_:=qb7 (sN (by repeat (first|(with_reducible first|exact HB.out|apply below_alloc|apply qa7|apply below_drew1)|exact HB.out)) hb);have n1_:=qb7 (hbox);have n2_:=qb7 ((by rw [hg];exact (below_size (by repeat (first|(with_reducible first|exact HB.out|apply below_alloc|apply qa7|apply below_drew1)|exact HB.out))) : w.heap.size ≤ gb312));have n3_:=qb7 ((by rw [hg];exact (below_size (by repeat (first|(with_reducible first|exact HB.out|apply below_alloc|apply qa7|apply below_drew1)|exact HB.out))) : w.heap.size ≤ gb312));clear HB;have HB:=n0_;have BK312:=n1_;have GW312:=n2_;have GE312:=n3_;clear n0_ n1_ n2_ n3_;clear hb hbox hg;have hcz14_0 : w13.cell? ⟨gb312,0,none⟩ = some (.int .i64 a0_0):=(blk_cell BK312.out 0).trans rfl;have hcz14_1 : w13.cell? ⟨gb312,1,none⟩ = some (.int .i64 a0_1):=(blk_cell BK312.out 1).trans rfl;have hcz14_2 : w13.cell? ⟨gb312,2,none⟩ = some (.slice A0_2 l0_2.length c0_2):=(blk_cell BK312.out 2).trans rfl;have hcz14_3 : w13.cell? ⟨gb312,3,none⟩ = some (.slice A0_3 l0_3.length c0_3):=(blk_cell BK312.out 3).trans rfl;have hfz14_0:=sJ BK312.out 0;have hfz14_1:=sJ BK312.out 1;have hfz14_2:=sJ BK312.out 2;have hfz14_3:=sJ BK312.out 3)|((with_reducible refine gate_callee (f:=11) rfl ?_);refine goesL_ (some 5) rfl rfl Try.func11 (by kernel_rfl) rfl #[.agg #[.int .i64 a0_0,.int .i64 a0_1,.slice A0_2 l0_2.length c0_2,.slice A0_3 l0_3.length c0_3]] rfl (by (try simp only [sE,sH,sI]);first|done|rfl|(simp only [sG,sF];rfl)) ?_;(with_reducible refine (impl_TableOK.calls a0_0 a0_1 _ _ l0_2 _ _ l0_3 false _ ?side1 ?side2 ?side3 ?side4 A2.out).mono ?_);(case side1 => repeat (first|exact (Kd.C_below HR0_2.out HB.out)|(with_reducible refine Kd.C_alloc ?_ _)|(with_reducible refine Kd.C_drewN ?_ _)|(with_reducible refine Kd.C_drew ?_)));(case side2 => exact HC0_2.out);(case side3 => repeat (first|exact (Kd.C_below HR0_3.out HB.out)|(with_reducible refine Kd.C_alloc ?_ _)|(with_reducible refine Kd.C_drewN ?_ _)|(with_reducible refine Kd.C_drew ?_)));(case side4 => exact HC0_3.out);rintro e w15 ⟨rfl,hb⟩;refine ⟨_,rfl,?_⟩;have n0_:=qb7 (blk_below (g:=gb312) (o:=.cells #[.int .i64 a0_0,.int .i64 a0_1,.slice A0_2 l0_2.length c0_2,.slice A0_3 l0_3.length c0_3] 31 (0,0)) (by (with_reducible repeat (first|apply blk_drewN|apply blk_drew|apply blk_alloc));exact BK312.out) hb);have n1_:=qb7 (sN (by repeat (first|(with_reducible first|exact HB.out|apply below_alloc|apply qa7|apply below_drew1|refine below_set ?_ GE312.out)|exact HB.out)) hb);clear BK312;clear HB;have BK312:=n0_;have HB:=n1_;clear n0_ n1_;(try clear hb);(try clear hb2);(try clear hk);(try clear hi)))
  go_ret2
  exact ⟨_,by first|rfl|(simp [errW_none,errW_some] <;> rfl)|(simp [*,errW_none,errW_some] <;> rfl),by first|exact Kd.R_nil _ _ _ _ _|exact Kd.N_nil _ _ _ _ _|exact Kd.V_nil _ _ _ _ _|exact Kd.Q_nil _ _ _ _ _|exact Kd.S_nil _ _ _ _ _,by repeat (first|(with_reducible first|exact HB.out|apply below_alloc|apply qa7|apply below_drew1|refine below_set ?_ GE312.out)|exact HB.out)⟩

/-! ### laws_eqByteS: function 17 -/
def laws_eqByteS.l0 : Nat → List Int → List Int → Int → Option (Bool)
 | 0,_,_,_ => none
 | k + 1,x0,x1,x5 => if x5 < (x0.length : Int) then (if 0 ≤ x5 then (if x5 < (x1.length : Int) then (if (rd x0 x5) = (rd x1 x5) then (laws_eqByteS.l0 k x0 x1 (wrap64 (x5 + 1))) else (some false)) else (none)) else (none)) else (some true)
def laws_eqByteS.f (k : Nat) (l0 : List Int) (l1 : List Int) : Option (Bool):=if (l0.length : Int) = (l1.length : Int) then (laws_eqByteS.l0 k l0 l1 0) else (some false)
set_option maxHeartbeats 8000000 in
set_option maxRecDepth 100000 in
theorem laws_eqByteS.calls (k : Nat) (A0 : Option Addr) (c0 : Nat) (l0 : List Int) (A1 : Option Addr) (c1 : Nat) (l1 : List Int) (r : Bool) (w : World) (hr0 : Kd.C (Kd.int .u8) w A0 l0.length l0) (hc0 : l0.length ≤ c0) (hr1 : Kd.C (Kd.int .u8) w A1 l1.length l1) (hc1 : l1.length ≤ c1) (h : laws_eqByteS.f k l0 l1 = some r) :
  Calls Try.prog 17 #[.slice A0 l0.length c0,.slice A1 l1.length c1] w fun e w' => e = .returned (.bool r) ∧ Drawn0 w w':=by
 have HR0:=qb7 hr0
 have HC0:=qb7 hc0
 clear hr0 hc0
 have HR1:=qb7 hr1
 have HC1:=qb7 hc1
 clear hr1 hc1
 have H : (if (l0.length : Int) = (l1.length : Int) then (laws_eqByteS.l0 k l0 l1 0) else (some false)) = some r:=h
 clear h
 by_cases c3 : (l0.length : Int) = (l1.length : Int)
 ·
  rw [if_pos c3] at H
  have c3b0 : ((l0.length : Int) == (l1.length : Int)) = true:=beq_iff_eq.mpr c3
  have c3b1 : ((l0.length : Int) != (l1.length : Int)) = false:=bne_eq_false_iff_eq.mpr c3
  have c3b2 : (l0.length == l1.length) = true:=by first|simpa using c3|(simp at c3 ⊢;omega)
  clear c3
  have H':=qb7 H
  clear H
  go_enter Try.func17,Try.ntmps17
  go_wp2
  repeat (go_quiet (fail);try go_wp2)
  go_loopg [5] k (fun kq v5 w' => ∃ (x5_1 : Int),v5 = .int .i64 x5_1 ∧ Aside0 (laws_eqByteS.l0 kq l0 l1 x5_1 = some r) ∧ Aside0 (kq ≤ k) ∧ Drawn0 w w')
  case atStart => exact ⟨(0),(by first|rfl|(simp;done)|(simp [*];done)),H',⟨Nat.le_refl _⟩,by repeat (first|exact Drawn0.refl _|apply Drawn0.step)⟩
  case round =>
   clear H'
   try clear c1
   try clear p2
   try clear c3
   try clear c3b0
   try clear c3b1
   try clear c3b2
   obtain ⟨x5_1,rfl,HA,HK1,⟨m1,rfl⟩⟩:=hrel
   cases gk with
   | zero => exact absurd HA.out (by simp [laws_eqByteS.l0])
   | succ k1 =>
    have H:=HA.out
    clear HA
    simp only [laws_eqByteS.l0] at H
    by_cases c4 : x5_1 < (l0.length : Int)
    ·
     rw [if_pos c4] at H
     have c4b0 : decide (x5_1 < (l0.length : Int)) = true:=decide_eq_true c4
     clear c4
     by_cases c5 : 0 ≤ x5_1
     ·
      rw [if_pos c5] at H
      have c5b0 : decide (0 ≤ x5_1) = true:=decide_eq_true c5
      clear c5
      by_cases c6 : x5_1 < (l1.length : Int)
      ·
       rw [if_pos c6] at H
       have c6b0 : decide (x5_1 < (l1.length : Int)) = true:=decide_eq_true c6
       clear c6
       by_cases c7 : (rd l0 x5_1) = (rd l1 x5_1)
       ·
        rw [if_pos c7] at H
        have c7b0 : ((rd l0 x5_1) == (rd l1 x5_1)) = true:=beq_iff_eq.mpr c7
        have c7b1 : ((rd l0 x5_1) != (rd l1 x5_1)) = false:=bne_eq_false_iff_eq.mpr c7
        clear c7
        have H':=qb7 H
        clear H
        have p318 : 0 ≤ (x5_1 : Int):=sM (by first|(with_reducible assumption)|assumption)
        have q318 : x5_1 < (l0.length : Int):=sM (by first|(with_reducible assumption)|assumption)
        obtain ⟨ad318,e318,hx318_0⟩:=Kd.at_int HR0.out x5_1 p318 q318
        cases e318
        replace p318:=eq_true p318
        replace q318:=eq_true q318
        have p319 : 0 ≤ (x5_1 : Int):=sM (by first|(with_reducible assumption)|assumption)
        have q319 : x5_1 < (l1.length : Int):=sM (by first|(with_reducible assumption)|assumption)
        obtain ⟨ad319,e319,hx319_0⟩:=Kd.at_int HR1.out x5_1 p319 q319
        cases e319
        replace p319:=eq_true p319
        replace q319:=eq_true q319
        go_wp2
        repeat (go_quiet (fail);try go_wp2)
        go_roundg k1
        case measure => have:=HK1.out;omega
        case rel => exact ⟨(wrap64 (x5_1 + 1)),(by first|rfl|(simp;done)|(simp [*];done)),H',⟨by have:=HK1.out;omega⟩,by repeat (first|exact Drawn0.refl _|apply Drawn0.step)⟩
       ·
        rw [if_neg c7] at H
        have c7b0 : ((rd l0 x5_1) == (rd l1 x5_1)) = false:=beq_eq_false_iff_ne.mpr c7
        have c7b1 : ((rd l0 x5_1) != (rd l1 x5_1)) = true:=bne_iff_ne.mpr c7
        obtain rfl:=sO H
        have p318 : 0 ≤ (x5_1 : Int):=sM (by first|(with_reducible assumption)|assumption)
        have q318 : x5_1 < (l0.length : Int):=sM (by first|(with_reducible assumption)|assumption)
        obtain ⟨ad318,e318,hx318_0⟩:=Kd.at_int HR0.out x5_1 p318 q318
        cases e318
        replace p318:=eq_true p318
        replace q318:=eq_true q318
        have p319 : 0 ≤ (x5_1 : Int):=sM (by first|(with_reducible assumption)|assumption)
        have q319 : x5_1 < (l1.length : Int):=sM (by first|(with_reducible assumption)|assumption)
        obtain ⟨ad319,e319,hx319_0⟩:=Kd.at_int HR1.out x5_1 p319 q319
        cases e319
        replace p319:=eq_true p319
        replace q319:=eq_true q319
        go_wp2
        repeat (go_quiet (fail);try go_wp2)
        go_ret
        exact ⟨by first|rfl|(simp;done)|(simp [*];done),by repeat (first|exact Drawn0.refl _|apply Drawn0.step)⟩
      ·
       rw [if_neg c6] at H
       exact absurd H (by simp)
     ·
      rw [if_neg c5] at H
      exact absurd H (by simp)
    ·
     rw [if_neg c4] at H
     have c4b0 : decide (x5_1 < (l0.length : Int)) = false:=decide_eq_false c4
     clear c4
     obtain rfl:=sO H
     go_wp2
     repeat (go_quiet (fail);try go_wp2)
     go_ret
     exact ⟨by first|rfl|(simp;done)|(simp [*];done),by repeat (first|exact Drawn0.refl _|apply Drawn0.step)⟩
 ·
  rw [if_neg c3] at H
  have c3b0 : ((l0.length : Int) == (l1.length : Int)) = false:=beq_eq_false_iff_ne.mpr c3
  have c3b1 : ((l0.length : Int) != (l1.length : Int)) = true:=bne_iff_ne.mpr c3
  have c3b2 : (l0.length == l1.length) = false:=by first|simpa using c3|(simp at c3 ⊢;omega)
  obtain rfl:=sO H
  go_enter Try.func17,Try.ntmps17
  go_wp2
  repeat (go_quiet (fail);try go_wp2)
  go_ret
  exact ⟨by first|rfl|(simp;done)|(simp [*];done),by repeat (first|exact Drawn0.refl _|apply Drawn0.step)⟩

/-! ### laws_markText: function 63 -/
def laws_markText.l0 : Nat → Int → ByteArray → Option (ByteArray)
 | 0,_,_ => none
 | k + 1,x0,x3 => if x0 > 0 then ((some (([(wrap64 (48 + (Int.tmod x0 10))) % 256] : List Int) : List Int)).bind fun y320 => (if (strOfNums y320).size + x3.size ≤ 9223372036854775807 then (laws_markText.l0 k (wrap64 (Int.tdiv x0 10)) ((strOfNums y320) ++ x3)) else (none))) else (if 1 + x3.size ≤ 9223372036854775807 then (some ((⟨#[109]⟩ : ByteArray) ++ x3)) else (none))
def laws_markText.f (k : Nat) (a0 : Int) : Option (ByteArray):=if a0 ≤ 0 then (some (⟨#[109,48]⟩ : ByteArray)) else (laws_markText.l0 k a0 (⟨#[]⟩ : ByteArray))
set_option maxHeartbeats 8000000 in
set_option maxRecDepth 100000 in
theorem laws_markText.calls (k : Nat) (a0 : Int) (r : ByteArray) (w : World) (h : laws_markText.f k a0 = some r) :
  Calls Try.prog 63 #[.int .i64 a0] w fun e w' => e = .returned (.string r) ∧ Below w.heap.size w w':=by
 have HB:=qb7 (Below.refl w.heap.size w)
 have H : (if a0 ≤ 0 then (some (⟨#[109,48]⟩ : ByteArray)) else (laws_markText.l0 k a0 (⟨#[]⟩ : ByteArray))) = some r:=h
 clear h
 by_cases c2 : a0 ≤ 0
 ·
  rw [if_pos c2] at H
  have c2b0 : decide (a0 ≤ 0) = true:=decide_eq_true c2
  clear c2
  obtain rfl:=sO H
  go_enter Try.func63,Try.ntmps63
  go_wp2
  go_ret
  exact ⟨by first|rfl|(simp [errW_none,errW_some] <;> rfl)|(simp [*,errW_none,errW_some] <;> rfl),by repeat (first|(with_reducible first|exact HB.out|apply below_alloc|apply qa7|apply below_drew1)|exact HB.out)⟩
 ·
  rw [if_neg c2] at H
  have c2b0 : decide (a0 ≤ 0) = false:=decide_eq_false c2
  clear c2
  have H':=qb7 H
  clear H
  go_enter Try.func63,Try.ntmps63
  go_wp2
  go_loopg [0,3] k (fun kq v0 v3 w' => ∃ (x0_1 : Int) (x3_1 : ByteArray),v0 = .int .i64 x0_1 ∧ v3 = .string x3_1 ∧ Aside0 (laws_markText.l0 kq x0_1 x3_1 = some r) ∧ Aside0 (kq ≤ k) ∧ Aside0 (Below w.heap.size w w'))
  case atStart => exact ⟨(a0),((⟨#[]⟩ : ByteArray)),(by first|rfl|(simp;done)|(simp [*];done)),(by first|rfl|(simp;done)|(simp [*];done)),H',⟨Nat.le_refl _⟩,⟨by repeat (first|(with_reducible first|exact HB.out|apply below_alloc|apply qa7|apply below_drew1)|exact HB.out)⟩⟩
  case round =>
   clear H'
   try clear c2
   try clear c2b0
   try clear p2
   obtain ⟨x0_1,x3_1,rfl,rfl,HA,HK1,HB⟩:=hrel
   cases gk with
   | zero => exact absurd HA.out (by simp [laws_markText.l0])
   | succ k1 =>
    have H:=HA.out
    clear HA
    simp only [laws_markText.l0] at H
    by_cases c3 : x0_1 > 0
    ·
     rw [if_pos c3] at H
     have c3b0 : decide (0 < x0_1) = true:=decide_eq_true c3
     clear c3
     obtain ⟨y320,hy320⟩ : ∃ y_ : List Int,y_ = (([(wrap64 (48 + (Int.tmod x0_1 10))) % 256] : List Int)):=⟨_,rfl⟩
     replace H : (if (strOfNums y320).size + x3_1.size ≤ 9223372036854775807 then (laws_markText.l0 k1 (wrap64 (Int.tdiv x0_1 10)) ((strOfNums y320) ++ x3_1)) else (none)) = some r:=by first|(rw [hy320];with_reducible exact H)|(have H2_:=(Option.bind_some _ _).symm.trans H;rw [hy320];with_reducible exact H2_)|(have H2_:=(Option.bind_some _ _).symm.trans H;with_reducible exact H2_)|with_reducible exact H|(rw [hy320];exact H)|exact H
     have Ny320:=qb7 hy320
     clear hy320
     by_cases c4 : (strOfNums y320).size + x3_1.size ≤ 9223372036854775807
     ·
      rw [if_pos c4] at H
      have c4b0:=eq_true c4
      have c4b1 : decide ((strOfNums y320).size + x3_1.size ≤ 9223372036854775807) = true:=decide_eq_true c4
      try have c4b2 : (9223372036854775807 < (strOfNums y320).size + x3_1.size) = False:=eq_false (Nat.not_lt.2 c4)
      have H':=qb7 H
      clear H
      go_wp2_with (first|((with_reducible refine gate_dst (N:=12) rfl ?_);refine Kd.R_lit (Kd.int .u8) _ 5 ?hg (N:=12) ?hd (xs:=([(wrap64 (48 + (Int.tmod x0_1 10))) % 256] : List Int)) (inner:=[.int .u8 ((wrap64 (48 + (Int.tmod x0_1 10))) % 256)]) (ok:=fun _ => True) (okp:=fun _ => True) ?hr ?hp (fun _ hk => hk) trivial (Below.refl _ _) (Nat.le_refl _) (by simp) ?_;(case hd => rfl);(case hg => rfl);(case hr => first|(go_simp;done)|(go_simp;rfl));(case hp => exact (Reps.one (show Kd.M (Kd.int .u8) _ _ _ ((wrap64 (48 + (Int.tmod x0_1 10))) % 256) [.int .u8 ((wrap64 (48 + (Int.tmod x0_1 10))) % 256)] from rfl) (Reps.none _ _)));intro v321 w5 ho6 hb hg_ hnew_;clear hg_ hnew_;(first|rw [← Ny320.out] at ho6|(simp only [Int.reduceToNat] at ho6;rw [← Ny320.out] at ho6));have n0_:=qb7 (Kd.R_lower ho6 (below_size (by repeat (first|(with_reducible first|exact HB.out|apply below_alloc|apply qa7|apply below_drew1)|exact HB.out))));have n1_:=qb7 (sN (by repeat (first|(with_reducible first|exact HB.out|apply below_alloc|apply qa7|apply below_drew1)|exact HB.out)) hb);clear HB;have HO322:=n0_;have HB:=n1_;clear n0_ n1_;clear hb ho6;have hcv7:=own_string (P:=Try.prog) Try.underlying38 Try.underlying5 Try.underlying9 (Kd.own_of_R HO322.out)))
      go_roundg k1
      case measure => have:=HK1.out;omega
      case rel => exact ⟨(wrap64 (Int.tdiv x0_1 10)),((strOfNums y320) ++ x3_1),(by first|rfl|(simp;done)|(simp [*];done)),(by first|rfl|(simp;done)|(simp [*];done)),H',⟨by have:=HK1.out;omega⟩,⟨by repeat (first|(with_reducible first|exact HB.out|apply below_alloc|apply qa7|apply below_drew1)|exact HB.out)⟩⟩
     ·
      rw [if_neg c4] at H
      exact absurd H (by simp)
    ·
     rw [if_neg c3] at H
     have c3b0 : decide (0 < x0_1) = false:=decide_eq_false c3
     clear c3
     by_cases c8 : 1 + x3_1.size ≤ 9223372036854775807
     ·
      rw [if_pos c8] at H
      have c8b0:=eq_true c8
      have c8b1 : decide (1 + x3_1.size ≤ 9223372036854775807) = true:=decide_eq_true c8
      try have c8b2 : (9223372036854775807 < 1 + x3_1.size) = False:=eq_false (Nat.not_lt.2 c8)
      obtain rfl:=sO H
      go_wp2
      go_ret
      exact ⟨by first|rfl|(simp [errW_none,errW_some] <;> rfl)|(simp [*,errW_none,errW_some] <;> rfl),by repeat (first|(with_reducible first|exact HB.out|apply below_alloc|apply qa7|apply below_drew1)|exact HB.out)⟩
     ·
      rw [if_neg c8] at H
      exact absurd H (by simp)

/-! ### laws_markWaiterS: function 82 -/
def laws_markWaiterS.l0 : Nat → List (S73) → Int → Int → Option (Int × (List (S73)))
 | 0,_,_,_ => none
 | k + 1,x0,x1,x5 => if x5 < (x0.length : Int) then (if 0 ≤ x5 then ((some (x0.set (x5 : Int).toNat (⟨x1,(rd_T73 x0 x5).f1⟩ : S73) : List (S73))).bind fun y323 => (laws_markWaiterS.l0 k (y323.set (x5 : Int).toNat (⟨(rd_T73 y323 x5).f0,wrap64 (x1 + 1)⟩ : S73)) (wrap64 ((wrap64 (x1 + 1)) + 1)) (wrap64 (x5 + 1)))) else (none)) else (some (x1,x0))
def laws_markWaiterS.f (k : Nat) (l0 : List (S73)) (a1 : Int) : Option (Int × (List (S73))):=laws_markWaiterS.l0 k l0 a1 0
set_option maxHeartbeats 8000000 in
set_option maxRecDepth 100000 in
theorem laws_markWaiterS.calls (k : Nat) (P0_ : Nat → Prop) (u9000_ : Value) (l0 : List (S73)) (a1 : Int) (r1 : Int) (r2 : List (S73)) (w0 w : World) (hB : Below w0.heap.size w0 w) (ho0 : Kd.R k73 73 w w0.heap.size P0_ u9000_ l0) (h : laws_markWaiterS.f k l0 a1 = some (r1,r2)) :
  Calls Try.prog 82 #[u9000_,.int .i64 a1] w fun e w' => e = .returned (.int .i64 r1) ∧ Kd.R k73 73 w' w0.heap.size (fun k_ => (P0_ k_ ∨ w.heap.size ≤ k_)) u9000_ r2 ∧ Below w0.heap.size w0 w' ∧ Kept w w' (fun k_ => P0_ k_):=by
 have HO0:=qb7 (show Kd.R k73 73 w w0.heap.size (fun k_ => (P0_ k_ ∨ w.heap.size ≤ k_)) u9000_ l0 from Kd.R_mono ho0 (fun k_ hk => (.inl hk)))
 have HK:=qb7 (Kept.refl w (fun k_ => P0_ k_))
 have HW0:=qb7 hB.size
 have HB:=qb7 hB
 clear hB
 have H : (laws_markWaiterS.l0 k l0 a1 0) = some (r1,r2):=h
 clear h
 have H':=qb7 H
 clear H
 go_enter Try.func82,Try.ntmps82
 go_wp2
 go_loopg [1,5] k (fun kq v1 v5 w' => ∃ (x0_1 : List (S73)) (x1_1 : Int) (x5_1 : Int),v1 = .int .i64 x1_1 ∧ v5 = .int .i64 x5_1 ∧ Aside0 (laws_markWaiterS.l0 kq x0_1 x1_1 x5_1 = some (r1,r2)) ∧ Aside0 (kq ≤ k) ∧ Aside0 (Kd.R k73 73 w' w0.heap.size (fun k_ => (P0_ k_ ∨ w.heap.size ≤ k_)) u9000_ x0_1) ∧ Aside0 (Kept w w' (fun k_ => P0_ k_)) ∧ Aside0 (Below w0.heap.size w0 w'))
 case atStart => exact ⟨(l0),(a1),(0),(by first|rfl|(simp;done)|(simp [*];done)),(by first|rfl|(simp;done)|(simp [*];done)),H',⟨Nat.le_refl _⟩,⟨by (with_reducible repeat (first|apply Kd.R_alloc|apply Kd.R_drewN|apply Kd.R_drew));exact HO0.out⟩,⟨by repeat (first|(with_reducible first|exact HK.out|apply Kept.alloc|apply Kept.drewN|apply Kept.drew)|exact HK.out)⟩,⟨by repeat (first|(with_reducible first|exact HB.out|apply below_alloc|apply qa7|apply below_drew1)|exact HB.out)⟩⟩
 case round =>
  clear H'
  try clear p2
  obtain ⟨x0_1,x1_1,x5_1,rfl,rfl,HA,HK1,HO_0,HK,HB⟩:=hrel
  cases gk with
  | zero => exact absurd HA.out (by simp [laws_markWaiterS.l0])
  | succ k1 =>
   have H:=HA.out
   clear HA
   simp only [laws_markWaiterS.l0] at H
   by_cases c3 : x5_1 < (x0_1.length : Int)
   ·
    rw [if_pos c3] at H
    have c3b0 : decide (x5_1 < (x0_1.length : Int)) = true:=decide_eq_true c3
    clear c3
    by_cases c4 : 0 ≤ x5_1
    ·
     rw [if_pos c4] at H
     have c4b0 : decide (0 ≤ x5_1) = true:=decide_eq_true c4
     clear c4
     obtain ⟨y323,hy323⟩ : ∃ y_ : List (S73),y_ = (x0_1.set (x5_1 : Int).toNat (⟨x1_1,(rd_T73 x0_1 x5_1).f1⟩ : S73)):=⟨_,rfl⟩
     replace H : (laws_markWaiterS.l0 k1 (y323.set (x5_1 : Int).toNat (⟨(rd_T73 y323 x5_1).f0,wrap64 (x1_1 + 1)⟩ : S73)) (wrap64 ((wrap64 (x1_1 + 1)) + 1)) (wrap64 (x5_1 + 1))) = some (r1,r2):=by first|(rw [hy323];with_reducible exact H)|(have H2_:=(Option.bind_some _ _).symm.trans H;rw [hy323];with_reducible exact H2_)|(have H2_:=(Option.bind_some _ _).symm.trans H;with_reducible exact H2_)|with_reducible exact H|(rw [hy323];exact H)|exact H
     have Ny323:=qb7 hy323
     clear hy323
     obtain ⟨y324,hy324⟩ : ∃ y_ : List (S73),y_ = (y323.set (x5_1 : Int).toNat (⟨(rd_T73 y323 x5_1).f0,wrap64 (x1_1 + 1)⟩ : S73)):=⟨_,rfl⟩
     replace H : (laws_markWaiterS.l0 k1 y324 (wrap64 ((wrap64 (x1_1 + 1)) + 1)) (wrap64 (x5_1 + 1))) = some (r1,r2):=by first|(rw [hy324];with_reducible exact H)|(have H2_:=(Option.bind_some _ _).symm.trans H;rw [hy324];with_reducible exact H2_)|(have H2_:=(Option.bind_some _ _).symm.trans H;with_reducible exact H2_)|with_reducible exact H|(rw [hy324];exact H)|exact H
     have Ny324:=qb7 hy324
     clear hy324
     have H':=qb7 H
     clear H
     obtain ⟨Ao7,co7,eo7⟩:=Kd.R_slice HO_0.out
     subst eo7
     have p5 : 0 ≤ (x5_1 : Int):=sM (by first|(with_reducible assumption)|assumption)
     have q5 : (x5_1 : Int) < ((x0_1.length : Int) : Int):=sM (by first|(with_reducible assumption)|assumption)
     obtain ⟨go5,co5,eo5,gb5,gl5,cl5,HG5⟩:=Kd.R_form HO_0.out (by omega)
     (first|cases eo5|(injection eo5 with ea_ en_ ec_;(first|subst ea_|(injection ea_ with ea_;subst ea_));subst ec_;clear en_))
     have GB5:=qb7 gb5
     have GG5:=qb7 HG5
     clear gb5 gl5 HG5
     have HMgo5:=qb7 (show (P0_ go5 ∨ w.heap.size ≤ go5) from (HO_0.out.1 _ rfl))
     obtain ⟨ce5,hcl5,hM5,hcc5,hfr5⟩:=Kd.R_elem HO_0.out z73 (x5_1 : Int) p5 q5
     obtain rfl:=k73_openM hM5
     have hx5_0 : wr.cell? ⟨go5,(x5_1 : Int).toNat * 2,none⟩ = some (.int .i64 ((rd_T73 x0_1 x5_1).f0)):=hcc5 0 _ rfl
     have hx5_1 : wr.cell? ⟨go5,(x5_1 : Int).toNat * 2 + 1,none⟩ = some (.int .i64 ((rd_T73 x0_1 x5_1).f1)):=hcc5 1 _ rfl
     have hf5_0 : wr.frozen? ⟨go5,(x5_1 : Int).toNat * 2,none⟩ = false:=hfr5 0 (by decide)
     have hf5_1 : wr.frozen? ⟨go5,(x5_1 : Int).toNat * 2 + 1,none⟩ = false:=hfr5 1 (by decide)
     clear hcl5 hcc5 hfr5 hM5
     replace p5:=eq_true p5
     replace q5:=eq_true q5
     have HX8:=qb7 (show Kd.R k73 73 wr w0.heap.size (fun k_ => (P0_ k_ ∨ w.heap.size ≤ k_)) (.slice (some ⟨go5,0,none⟩) x0_1.length co7) x0_1 from (by (with_reducible repeat (first|apply Kd.R_alloc|apply Kd.R_drewN|apply Kd.R_drew));exact HO_0.out))
     obtain ⟨ce8,hcl8,hM8,hcc8,hfr8⟩:=Kd.R_elem HX8.out z73 (x5_1 : Int) (sM (by first|(with_reducible assumption)|assumption)) (by have h_ : (x5_1 : Int) < ((x0_1.length : Int) : Int):=sM (by first|(with_reducible assumption)|assumption);first|exact h_|(have e_:=(Kd.R_reads' HO_0.out).1;omega)|simpa using h_)
     obtain rfl:=k73_openM hM8
     have HP8:=Kd.R_seg HX8.out (x5_1 : Int) (sM (by first|(with_reducible assumption)|assumption)) (by have h_ : (x5_1 : Int) < ((x0_1.length : Int) : Int):=sM (by first|(with_reducible assumption)|assumption);first|exact h_|(have e_:=(Kd.R_reads' HO_0.out).1;omega)|simpa using h_) (seg:=[.int .i64 x1_1]) (j:=0) hcl8 hcc8 (show 1 ≤ 2 from by decide) (x':=(⟨x1_1,(rd_T73 x0_1 x5_1).f1⟩ : S73)) (k73_mkM _ _ _ (⟨x1_1,(rd_T73 x0_1 x5_1).f1⟩ : S73) ) (fun _ hk => hk)
     have hx8_0:=hcc8 0 _ rfl
     (try simp only [show (k73).sz = 2 from rfl,Nat.mul_one,Nat.add_zero] at hx8_0)
     have hf8_0:=hfr8 0 (by decide)
     (try simp only [show (k73).sz = 2 from rfl,Nat.mul_one,Nat.add_zero] at hf8_0)
     clear hcl8 hcc8 hfr8 hM8
     go_wp2_with (first|((with_reducible refine gate_store (t:=3) (p:=16) rfl ?_);refine store_event (t:=3) (p:=16) (v:=?vo_w9) (w1:=(wr.setCell ⟨go5,(x5_1 : Int).toNat * 2,none⟩ (.int .i64 x1_1))) ?hg ?ho ?hn ?hr ?_;(case ho => rfl);(case hg => rfl);(case hn => rfl);(case hr => first|(go_simp;done)|(go_simp;rfl));intro w9 hw;have hg : wr.grownBy w9 (some go5):=(by rw [hw];exact HP8.2);have hp_ : Kd.R k73 73 w9 w0.heap.size (fun k_ => (P0_ k_ ∨ w.heap.size ≤ k_)) (.slice (some ⟨go5,0,none⟩) x0_1.length co7) y323:=(by rw [hw,Ny323.out];exact HP8.1);clear HP8;have n0_:=qb7 (hp_);have n1_:=qb7 ((by rw [hw];exact below_set (HB.out) GB5.out : Below w0.heap.size w0 w9));have n2_:=qb7 (Kept.of_grown (S:=(fun k_ => P0_ k_)) hg (by repeat (first|(with_reducible first|exact HK.out|apply Kept.alloc|apply Kept.drewN|apply Kept.drew)|exact HK.out)) (fun k_ e_ => (HO_0.out.1 k_ e_)));clear HO_0;clear HB;clear HK;have HO_0:=n0_;have HB:=n1_;have HK:=n2_;clear n0_ n1_ n2_;clear hg hw hp_;have p6 : 0 ≤ (x5_1 : Int):=sM (by first|(with_reducible assumption)|assumption);have q6 : (x5_1 : Int) < ((x0_1.length : Int) : Int):=sM (by first|(with_reducible assumption)|assumption);obtain ⟨ce6,hcl6,hM6,hcc6,hfr6⟩:=Kd.R_elem HO_0.out z73 (x5_1 : Int) p6 q6;obtain rfl:=k73_openM hM6;have hx6_0 : w9.cell? ⟨go5,(x5_1 : Int).toNat * 2,none⟩ = some (.int .i64 ((rd_T73 y323 x5_1).f0)):=hcc6 0 _ rfl;have hx6_1 : w9.cell? ⟨go5,(x5_1 : Int).toNat * 2 + 1,none⟩ = some (.int .i64 ((rd_T73 y323 x5_1).f1)):=hcc6 1 _ rfl;have hf6_0 : w9.frozen? ⟨go5,(x5_1 : Int).toNat * 2,none⟩ = false:=hfr6 0 (by decide);have hf6_1 : w9.frozen? ⟨go5,(x5_1 : Int).toNat * 2 + 1,none⟩ = false:=hfr6 1 (by decide);clear hcl6 hcc6 hfr6 hM6;replace p6:=eq_true p6;replace q6:=eq_true q6;have HX10:=qb7 (show Kd.R k73 73 w9 w0.heap.size (fun k_ => (P0_ k_ ∨ w.heap.size ≤ k_)) (.slice (some ⟨go5,0,none⟩) x0_1.length co7) y323 from (by (with_reducible repeat (first|apply Kd.R_alloc|apply Kd.R_drewN|apply Kd.R_drew));exact HO_0.out));obtain ⟨ce10,hcl10,hM10,hcc10,hfr10⟩:=Kd.R_elem HX10.out z73 (x5_1 : Int) (sM (by first|(with_reducible assumption)|assumption)) (by have h_ : (x5_1 : Int) < ((x0_1.length : Int) : Int):=sM (by first|(with_reducible assumption)|assumption);first|exact h_|(have e_:=(Kd.R_reads' HO_0.out).1;omega)|simpa using h_);obtain rfl:=k73_openM hM10;have HP10:=Kd.R_seg HX10.out (x5_1 : Int) (sM (by first|(with_reducible assumption)|assumption)) (by have h_ : (x5_1 : Int) < ((x0_1.length : Int) : Int):=sM (by first|(with_reducible assumption)|assumption);first|exact h_|(have e_:=(Kd.R_reads' HO_0.out).1;omega)|simpa using h_) (seg:=[.int .i64 (wrap64 (x1_1 + 1))]) (j:=1) hcl10 hcc10 (show 2 ≤ 2 from by decide) (x':=(⟨(rd_T73 y323 x5_1).f0,wrap64 (x1_1 + 1)⟩ : S73)) (k73_mkM _ _ _ (⟨(rd_T73 y323 x5_1).f0,wrap64 (x1_1 + 1)⟩ : S73) ) (fun _ hk => hk);have hx10_1:=hcc10 1 _ rfl;(try simp only [show (k73).sz = 2 from rfl,Nat.mul_one,Nat.add_zero] at hx10_1);have hf10_1:=hfr10 1 (by decide);(try simp only [show (k73).sz = 2 from rfl,Nat.mul_one,Nat.add_zero] at hf10_1);clear hcl10 hcc10 hfr10 hM10)|((with_reducible refine gate_store (t:=3) (p:=23) rfl ?_);refine store_event (t:=3) (p:=23) (v:=?vo_w11) (w1:=(w9.setCell ⟨go5,(x5_1 : Int).toNat * 2 + 1,none⟩ (.int .i64 (wrap64 (x1_1 + 1))))) ?hg ?ho ?hn ?hr ?_;(case ho => rfl);(case hg => rfl);(case hn => rfl);(case hr => first|(go_simp;done)|(go_simp;rfl));intro w11 hw;have hg : w9.grownBy w11 (some go5):=(by rw [hw];exact HP10.2);have hp_ : Kd.R k73 73 w11 w0.heap.size (fun k_ => (P0_ k_ ∨ w.heap.size ≤ k_)) (.slice (some ⟨go5,0,none⟩) x0_1.length co7) y324:=(by rw [hw,Ny324.out];exact HP10.1);clear HP10;have n0_:=qb7 (hp_);have n1_:=qb7 ((by rw [hw];exact below_set (HB.out) GB5.out : Below w0.heap.size w0 w11));have n2_:=qb7 (Kept.of_grown (S:=(fun k_ => P0_ k_)) hg (by repeat (first|(with_reducible first|exact HK.out|apply Kept.alloc|apply Kept.drewN|apply Kept.drew)|exact HK.out)) (fun k_ e_ => (HO_0.out.1 k_ e_)));clear HO_0;clear HB;clear HK;have HO_0:=n0_;have HB:=n1_;have HK:=n2_;clear n0_ n1_ n2_;clear hg hw hp_))
     go_roundg k1
     case measure => have:=HK1.out;omega
     case rel => exact ⟨(y324),(wrap64 ((wrap64 (x1_1 + 1)) + 1)),(wrap64 (x5_1 + 1)),(by first|rfl|(simp;done)|(simp [*];done)),(by first|rfl|(simp;done)|(simp [*];done)),H',⟨by have:=HK1.out;omega⟩,⟨by (with_reducible repeat (first|apply Kd.R_alloc|apply Kd.R_drewN|apply Kd.R_drew));exact HO_0.out⟩,⟨by repeat (first|(with_reducible first|exact HK.out|apply Kept.alloc|apply Kept.drewN|apply Kept.drew)|exact HK.out)⟩,⟨by repeat (first|(with_reducible first|exact HB.out|apply below_alloc|apply qa7|apply below_drew1)|exact HB.out)⟩⟩
    ·
     rw [if_neg c4] at H
     exact absurd H (by simp)
   ·
    rw [if_neg c3] at H
    have c3b0 : decide (x5_1 < (x0_1.length : Int)) = false:=decide_eq_false c3
    clear c3
    simp only [Option.some.injEq,Prod.mk.injEq] at H
    obtain ⟨rfl,rfl⟩:=H
    obtain ⟨Ao12,co12,eo12⟩:=Kd.R_slice HO_0.out
    subst eo12
    go_wp2
    go_ret
    exact ⟨by first|rfl|(simp [errW_none,errW_some] <;> rfl)|(simp [*,errW_none,errW_some] <;> rfl),by (with_reducible repeat (first|apply Kd.R_alloc|apply Kd.R_drewN|apply Kd.R_drew));exact HO_0.out,by repeat (first|(with_reducible first|exact HB.out|apply below_alloc|apply qa7|apply below_drew1)|exact HB.out),by repeat (first|(with_reducible first|exact HK.out|apply Kept.alloc|apply Kept.drewN|apply Kept.drew)|exact HK.out)⟩

-- NOT PRINTED: function 53 (laws_markLockS)

-- NOT PRINTED: function 54 (laws_markSeenS)

-- NOT PRINTED: function 18 (laws_markTable)

end Go.Proofs.Ytjkanhjapddhnaa.PFnExactTableBytes
