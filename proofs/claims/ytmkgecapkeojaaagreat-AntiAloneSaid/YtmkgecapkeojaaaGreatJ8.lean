/- Texts of this claim, put together by a program: RowD, Ord, EvP, EvT, EvNum, EvV, EvR, PlA, RunsP, Told1, RunRow, RunsA. -/
import Derived.Test.YtmkgecapkeojaaaGreatJ7
import Derived.Laws.Closers25b
import Derived.Laws.BitsAllLaws
import Derived.Lib.Mul64
import Derived.Lib.Bytealg
import Derived.LoopIn
set_option linter.unusedVariables false
set_option linter.unusedSimpArgs false
set_option maxHeartbeats 8000000
set_option maxRecDepth 100000
section
namespace Go.Proofs.YtmkgecapkeojaaaGreat.Rw
open PDa
open RowKit YtmkgecapkeojaaaGreatW.PrintWords YtmkgecapkeojaaaGreatW.PrintLast YtmkgecapkeojaaaGreatW.PrintMore
open SortM Run Stp
attribute [local go_sem high] eqA65
theorem join_below {B:Nat} {a v u w':World} (h:Below B a v) (k:Below u.heap.size u w') (hv:u.os=v.os/\u.tape=v.tape/\u.output=v.output/\u.heap=v.heap) (hB:B<=v.heap.size):Below B a w':=by
 obtain⟨h1,h2,h3,h4⟩:=hv;refine⟨k.os.trans (h1.trans h.os),k.tape.trans (h2.trans h.tape),k.output.trans (h3.trans h.output),Nat.le_trans h.size (by rw[<- h4];exact k.size),fun i hi=>?_⟩;rw[k.block i (by rw[h4];omega),h4];exact h.block i hi
theorem cmp1_calls (bb:Nat) (w:World) :
  Calls Tryz.prog 142 #[.pointer (some ⟨bb,0,none⟩)] w fun e w'=>∃ bi,w.heap.size<=bi/\e = .returned (.func (.func 143) #[] #[.pointer (some ⟨bi,0,none⟩),.pointer (some ⟨bb,0,none⟩)])/\w'.heap[bi]? = some (.cells #[.int .i64 (-1)] 3 (0,0))/\Below w.heap.size w w':=by
 have hmf:∀ (fn:Fn) (first cap:Array Value) (w:World),(Instr.makeFunc fn first cap).run Tryz.prog w = .ok (.func fn first cap) w:=fun _ _ _ _=>rfl
 have HB:=Hd (below_alloc (Below.refl _ w) (.cells #[.int .i64 (-1)] 3 (0,0)));have HN:=Hd (blk_new w (.cells #[.int .i64 (-1)] 3 (0,0)));go_enter Tryz.func142,Tryz.ntmps142;go_wp2;go_ret;exact⟨w.heap.size,Nat.le_refl _,rfl,HN.out,HB.out⟩
theorem far_row {w:World} {A:Option Addr} {n bi:Nat} {xs:List Vl} (h:Kd.C kV w A n xs) (hb:w.heap.size<=bi):0<n -> ∀ g,A.map (·.block)=some g->g ≠ bi:=by
 intro hn g hg;obtain⟨ad,c,e,hc,hK,hcell⟩:=Kd.C_get h z65 0 (by omega) (by omega);rw[e] at hg;have hcs:=k65_open hK;have h1:=World.block_lt_of_cell? w _ (hcell 0 _ (by rw[hcs];rfl));rw[addB] at h1;have h2:ad.block=g:=by simpa using hg
 omega
theorem ixr2_calls (bi bb:Nat) (A0 B0:Option Addr) (c0 d0 n:Nat) (a b:List Vl) (w:World) (hna:n<=a.length) (hnb0:n<=b.length) (hl:b.length<=1099511627776) (hla:a.length<=1099511627776) (hne:bi ≠ bb)
  (h1:w.heap[bi]? = some (.cells #[.int .i64 (-1)] 3 (0,0))) (h2:w.heap[bb]? = some (.cells #[.slice B0 b.length d0] 39 (0,0))) (hra:Kd.C kV w A0 a.length a) (hrb:Kd.C kV w B0 b.length b)
  (hna':0<a.length -> ∀ g,A0.map (·.block)=some g->g ≠ bi) (hnb:0<b.length -> ∀ g,B0.map (·.block)=some g->g ≠ bi) :
  Calls Tryz.prog 141 #[.slice A0 n c0,.func (.func 143) #[] #[.pointer (some ⟨bi,0,none⟩),.pointer (some ⟨bb,0,none⟩)]] w fun e w' =>
   ∃ r:Int,e = .returned (.int .i64 r)/\((r = -1/\a.take n=b.take n)\/(∃ (k:Nat) (x y:Vl),r=(k:Int)/\k<n/\a.take k=b.take k/\a[k]? = some x/\b[k]? = some y/\eqV x y=false))/\Step (OnlyB bi) (OnlyB bi) w w' :=
 (ixr_calls bi bb A0 B0 c0 d0 n a b w hna hnb0 hl hla hne h1 h2 hra hrb hna' hnb).mono fun e w' h=>by
  obtain⟨h | ⟨k,x,y,h1,h2⟩,hs⟩:=h
  ·exact⟨-1,h.1,.inl ⟨rfl,h.2⟩,hs⟩
  ·exact⟨k,h1,.inr ⟨k,x,y,rfl,h2⟩,hs⟩
def cmpV (x y:Vl):Int:=thCmp (thOf x.f0 x.f1 x.f2) (thOf y.f0 y.f1 y.f2)
def diff:List Vl->List Vl->Option (Vl × Vl)
 | x :: xs,y :: ys=>if eqV x y=true then diff xs ys else some (x,y)
 | _,_=>none
def cmpL (a b:List Vl):Int:=match diff a b with
 | some (x,y)=>cmpV x y
 | none=>Cmp.icmp (a.length:Int) (b.length:Int)
def cmpR (a b:List Vl):Int:=if rowMay a=true then if rowMay b=true then cmpL a b else 0 else 0
theorem diff_none:∀ (a b:List Vl) (n:Nat),(n=a.length\/n=b.length)->n<=a.length->n<=b.length->a.take n=b.take n->diff a b=none
 | [],b,n,_,_,_,_=>by cases b <;> rfl
 | x :: xs,[],n,_,_,_,_=>rfl
 | x :: xs,y :: ys,n,h,h1,h2,e=>by
  match n with
  | 0=>simp at h
  | n+1 =>
   simp only[List.take_succ_cons,List.cons.injEq] at e;rw[diff,if_pos ((eqV_iff x y).2 e.1)];exact diff_none xs ys n (by simpa using h) (by simpa using h1) (by simpa using h2) e.2
theorem diff_some:∀ (k:Nat) (a b:List Vl) (x y:Vl),a.take k=b.take k->a[k]? = some x->b[k]? = some y->eqV x y=false->diff a b=some (x,y)
 | k,[],b,x,y,_,h1,_,_=>by simp at h1
 | k,p :: ps,[],x,y,_,_,h2,_=>by simp at h2
 | 0,p :: ps,q :: qs,x,y,_,h1,h2,e=>by
  obtain rfl:p=x:=by simpa using h1
  obtain rfl:q=y:=by simpa using h2
  rw[diff,e,if_neg (by decide)]
 | k+1,p :: ps,q :: qs,x,y,h,h1,h2,e=>by
  simp only[List.take_succ_cons,List.cons.injEq] at h;rw[diff,if_pos ((eqV_iff p q).2 h.1)];exact diff_some k ps qs x y h.2 (by simpa using h1) (by simpa using h2) e
theorem compare_tail (A0 B0:Option Addr) (c0 d0:Nat) (a b:List Vl) (w:World) (hr0:Kd.C kV w A0 a.length a) (hr1:Kd.C kV w B0 b.length b) (hc0:a.length<=c0) (hd0:b.length<=d0) (hl:a.length<=1099511627776) (hl2:b.length<=1099511627776) (hlen:a.length<=b.length) (ha:rowMay a=true) (hb:rowMay b=true) :
  Calls Tryz.prog 94 #[.slice A0 a.length c0,.slice B0 b.length d0] w fun e w'=>e = .returned (.int .i64 (cmpL a b))/\Below w.heap.size w w':=by
 have HA:=Hd hr0;have HBb:=Hd hr1;have HB1:=Hd (below_alloc (Below.refl _ w) (.cells #[.slice B0 b.length d0] 39 (0,0)));have M1:=Hd (fun (w1:World) (h:Below w.heap.size w w1)=>row_May.calls A0 c0 a true w1 (Kd.C_below HA.out h) hc0 (by unfold row_May.f;rw[ha]));have M2:=Hd (fun (w1:World) (h:Below w.heap.size w w1)=>row_May.calls B0 d0 b true w1 (Kd.C_below HBb.out h) hd0 (by unfold row_May.f;rw[hb]));obtain⟨r,hr⟩:∃ r,cmpL a b=r:=⟨_,rfl⟩
 rw[hr];have HRR:=Hd hr;have x0:=blk_cell (blk_new w (.cells #[.slice B0 b.length d0] 39 (0,0))) 0;clear hr0 hr1 hr ha hb;go_enter Tryz.func94,Tryz.ntmps94
 go_wp2_with (first
  | (go_at_call 77;(with_reducible refine (M1.out _ HB1.out).mono ?_);rintro e w1 ⟨rfl,hb1⟩;have HB2:=Hd (HB1.out.trans (hb1.mono HB1.out.size));have HX1:=Hd (blk_below (blk_new w (.cells #[.slice B0 b.length d0] 39 (0,0))) hb1);have x1:=blk_cell HX1.out 0;clear hb1)
  | (go_at_call 77;(with_reducible refine (M2.out _ HB2.out).mono ?_);rintro e w2 ⟨rfl,hb2⟩;have HB3:=Hd (HB2.out.trans (hb2.mono HB2.out.size));have HX2:=Hd (blk_below HX1.out hb2);have x2:=blk_cell HX2.out 0;clear hb2))
 have hn1:a.length<=a.length:=by omega
 have hn2:a.length<=b.length:=by omega
 have hmf:∀ (fn:Fn) (first cap:Array Value) (w:World),(Instr.makeFunc fn first cap).run Tryz.prog w = .ok (.func fn first cap) w:=fun _ _ _ _=>rfl
 go_region_with (first
  | (go_at_call 142;(with_reducible refine (cmp1_calls w.heap.size _).mono ?_);rintro e w3 ⟨bi,hbi,rfl,hci,hb3'⟩;have hb3:=join_below (Below.refl w2.heap.size w2) hb3' ⟨rfl,rfl,rfl,rfl⟩ (Nat.le_refl _);clear hb3';have HBI:=Hd (show w.heap.size<bi from Nat.lt_of_lt_of_le (show w.heap.size<w2.heap.size from blk_lt HX2.out) hbi);have HB4:=Hd (HB3.out.trans (hb3.mono HB3.out.size));have HX3:=Hd (blk_below HX2.out hb3);have HCI:=Hd hci;clear hbi hci hb3)
  | (go_at_call 141;(with_reducible refine (ixr2_calls bi w.heap.size A0 B0 c0 d0 _ a b _ hn1 hn2 hl2 hl (Nat.ne_of_gt HBI.out) HCI.out HX3.out (Kd.C_below HA.out HB4.out) (Kd.C_below HBb.out HB4.out) (far_row HA.out (Nat.le_of_lt HBI.out)) (far_row HBb.out (Nat.le_of_lt HBI.out))).mono ?_);rintro e w4 ⟨r4,rfl,hP,hs4⟩;have HP:=Hd hP;have HX4:=Hd ((hs4.keep _ (blk_lt HX3.out) (Nat.ne_of_lt HBI.out)).trans HX3.out);have HB5:=Hd (HB4.out.trans (hs4.below HB4.out.size (fun b hb=>by rw[show b=bi from hb];exact Nat.le_of_lt HBI.out)));clear hP hs4))
 have m0:=blk_cell HX4.out 0
 rcases HP.out with ⟨rfl,ht⟩ | ⟨k,x,y,rfl,hk,ht,hx,hy,hv⟩
 ·have hd:Cmp.icmp (a.length:Int) (b.length:Int)=r:=by rw[<- HRR.out,cmpL,diff_none a b a.length (.inl rfl) hn1 hn2 ht]
  have C:=Hd (fun w1=>cmp_Compare_int.calls (a.length:Int) (b.length:Int) r w1 (by rw[compare_f,hd]));clear ht hd
  go_wp2_with (go_at_call 106;((with_reducible refine (C.out _).mono ?_);rintro e w' ⟨rfl,hb⟩))
  go_ret;exact⟨rfl,HB5.out.trans (hb.below.mono HB5.out.size)⟩
 ·have hd:cmpV x y=r:=by rw[<- HRR.out,cmpL,diff_some k a b x y ht hx hy hv]
  have CM:=Hd (fun (p:BelowOf w4)=>(show Calls Tryz.prog 144 #[.agg #[.int .i64 x.f0,.int .i64 x.f1,.string x.f2],.agg #[.int .i64 y.f0,.int .i64 y.f1,.string y.f2]] p.W (fun e w'=>e = .returned (.int .i64 r)/\Below p.W.heap.size p.W w') from (value_Compare.calls x.f0 x.f1 x.f2 y.f0 y.f1 y.f2 r p.W (by rw[<- hd];rfl)).mono fun e w' h=>⟨h.1,by first | exact h.2 | exact h.2.below⟩));obtain⟨adx,e1,s0,s1,s2⟩:=at_T65 (Kd.C_below HA.out HB5.out) (k:Int) (by omega) (by omega);obtain⟨ady,e2,y0,y1,y2⟩:=at_T65 (Kd.C_below HBb.out HB5.out) (k:Int) (by omega) (by omega);have hrx:rd_T65 a (k:Int)=x:=by unfold rd_T65;simp[hx]
  have hry:rd_T65 b (k:Int)=y:=by unfold rd_T65;simp[hy]
  rw[hrx] at s0 s1 s2;rw[hry] at y0 y1 y2;simp only[Int.toNat_natCast] at s0 s1 s2 y0 y1 y2;cases e1;cases e2;clear hrx hry hx hy hv ht hd;have s0':=fun p=>BelowOf.cell s0 p
  have s1':=fun p=>BelowOf.cell s1 p
  have s2':=fun p=>BelowOf.cell s2 p
  have y0':=fun p=>BelowOf.cell y0 p
  have y1':=fun p=>BelowOf.cell y1 p
  have y2':=fun p=>BelowOf.cell y2 p
  have m0':=fun (p:BelowOf w4)=>(blk_cell (blk_below HX4.out p.h) 0).trans (show _=some (.slice (some ady) b.length d0) from rfl)
  go_wp2;refine wp_region_quiet_below (by kernel_rfl) (by kernel_rfl) ?_
  repeat (go_big_quiet_step (exact below_calls (CM.out _)))
  refine wpQuiet_nil ?_;intro wq hw1;have HWQ:=Hd (show Below w4.heap.size w4 wq by obtain⟨p,rfl⟩:=hw1;exact p.h);clear hw1 s0' s1' s2' y0' y1' y2' m0';go_wp2;go_ret;exact⟨rfl,HB5.out.trans (HWQ.out.mono HB5.out.size)⟩
theorem compare_tail2 (A0 B0:Option Addr) (c0 d0:Nat) (a b:List Vl) (w:World) (hr0:Kd.C kV w A0 a.length a) (hr1:Kd.C kV w B0 b.length b) (hc0:a.length<=c0) (hd0:b.length<=d0) (hl:a.length<=1099511627776) (hl2:b.length<=1099511627776) (hlen:b.length<a.length) (ha:rowMay a=true) (hb:rowMay b=true) :
  Calls Tryz.prog 94 #[.slice A0 a.length c0,.slice B0 b.length d0] w fun e w'=>e = .returned (.int .i64 (cmpL a b))/\Below w.heap.size w w':=by
 have HA:=Hd hr0;have HBb:=Hd hr1;have HB1:=Hd (below_alloc (Below.refl _ w) (.cells #[.slice B0 b.length d0] 39 (0,0)));have M1:=Hd (fun (w1:World) (h:Below w.heap.size w w1)=>row_May.calls A0 c0 a true w1 (Kd.C_below HA.out h) hc0 (by unfold row_May.f;rw[ha]));have M2:=Hd (fun (w1:World) (h:Below w.heap.size w w1)=>row_May.calls B0 d0 b true w1 (Kd.C_below HBb.out h) hd0 (by unfold row_May.f;rw[hb]));obtain⟨r,hr⟩:∃ r,cmpL a b=r:=⟨_,rfl⟩
 rw[hr];have HRR:=Hd hr;have x0:=blk_cell (blk_new w (.cells #[.slice B0 b.length d0] 39 (0,0))) 0;clear hr0 hr1 hr ha hb;go_enter Tryz.func94,Tryz.ntmps94
 go_wp2_with (first
  | (go_at_call 77;(with_reducible refine (M1.out _ HB1.out).mono ?_);rintro e w1 ⟨rfl,hb1⟩;have HB2:=Hd (HB1.out.trans (hb1.mono HB1.out.size));have HX1:=Hd (blk_below (blk_new w (.cells #[.slice B0 b.length d0] 39 (0,0))) hb1);have x1:=blk_cell HX1.out 0;clear hb1)
  | (go_at_call 77;(with_reducible refine (M2.out _ HB2.out).mono ?_);rintro e w2 ⟨rfl,hb2⟩;have HB3:=Hd (HB2.out.trans (hb2.mono HB2.out.size));have HX2:=Hd (blk_below HX1.out hb2);have x2:=blk_cell HX2.out 0;clear hb2))
 have hbc:b.length<=c0:=by omega
 have hbc2:¬ c0<b.length:=by omega
 have hn1:b.length<=a.length:=by omega
 have hn2:b.length<=b.length:=by omega
 have hmf:∀ (fn:Fn) (first cap:Array Value) (w:World),(Instr.makeFunc fn first cap).run Tryz.prog w = .ok (.func fn first cap) w:=fun _ _ _ _=>rfl
 go_region_with (first
  | (go_at_call 142;(with_reducible refine (cmp1_calls w.heap.size _).mono ?_);rintro e w3 ⟨bi,hbi,rfl,hci,hb3'⟩;have hb3:=join_below (Below.refl w2.heap.size w2) hb3' ⟨rfl,rfl,rfl,rfl⟩ (Nat.le_refl _);clear hb3';have HBI:=Hd (show w.heap.size<bi from Nat.lt_of_lt_of_le (show w.heap.size<w2.heap.size from blk_lt HX2.out) hbi);have HB4:=Hd (HB3.out.trans (hb3.mono HB3.out.size));have HX3:=Hd (blk_below HX2.out hb3);have HCI:=Hd hci;clear hbi hci hb3)
  | (go_at_call 141;(with_reducible refine (ixr2_calls bi w.heap.size A0 B0 c0 d0 _ a b _ hn1 hn2 hl2 hl (Nat.ne_of_gt HBI.out) HCI.out HX3.out (Kd.C_below HA.out HB4.out) (Kd.C_below HBb.out HB4.out) (far_row HA.out (Nat.le_of_lt HBI.out)) (far_row HBb.out (Nat.le_of_lt HBI.out))).mono ?_);rintro e w4 ⟨r4,rfl,hP,hs4⟩;have HP:=Hd hP;have HX4:=Hd ((hs4.keep _ (blk_lt HX3.out) (Nat.ne_of_lt HBI.out)).trans HX3.out);have HB5:=Hd (HB4.out.trans (hs4.below HB4.out.size (fun b hb=>by rw[show b=bi from hb];exact Nat.le_of_lt HBI.out)));clear hP hs4))
 have m0:=blk_cell HX4.out 0
 rcases HP.out with ⟨rfl,ht⟩ | ⟨k,x,y,rfl,hk,ht,hx,hy,hv⟩
 ·have hd:Cmp.icmp (a.length:Int) (b.length:Int)=r:=by rw[<- HRR.out,cmpL,diff_none a b b.length (.inr rfl) hn1 hn2 ht]
  have C:=Hd (fun w1=>cmp_Compare_int.calls (a.length:Int) (b.length:Int) r w1 (by rw[compare_f,hd]));clear ht hd
  go_wp2_with (go_at_call 106;((with_reducible refine (C.out _).mono ?_);rintro e w' ⟨rfl,hb⟩))
  go_ret;exact⟨rfl,HB5.out.trans (hb.below.mono HB5.out.size)⟩
 ·have hd:cmpV x y=r:=by rw[<- HRR.out,cmpL,diff_some k a b x y ht hx hy hv]
  have CM:=Hd (fun (p:BelowOf w4)=>(show Calls Tryz.prog 144 #[.agg #[.int .i64 x.f0,.int .i64 x.f1,.string x.f2],.agg #[.int .i64 y.f0,.int .i64 y.f1,.string y.f2]] p.W (fun e w'=>e = .returned (.int .i64 r)/\Below p.W.heap.size p.W w') from (value_Compare.calls x.f0 x.f1 x.f2 y.f0 y.f1 y.f2 r p.W (by rw[<- hd];rfl)).mono fun e w' h=>⟨h.1,by first | exact h.2 | exact h.2.below⟩));obtain⟨adx,e1,s0,s1,s2⟩:=at_T65 (Kd.C_below HA.out HB5.out) (k:Int) (by omega) (by omega);obtain⟨ady,e2,y0,y1,y2⟩:=at_T65 (Kd.C_below HBb.out HB5.out) (k:Int) (by omega) (by omega);have hrx:rd_T65 a (k:Int)=x:=by unfold rd_T65;simp[hx]
  have hry:rd_T65 b (k:Int)=y:=by unfold rd_T65;simp[hy]
  rw[hrx] at s0 s1 s2;rw[hry] at y0 y1 y2;simp only[Int.toNat_natCast] at s0 s1 s2 y0 y1 y2;cases e1;cases e2;clear hrx hry hx hy hv ht hd;have s0':=fun p=>BelowOf.cell s0 p
  have s1':=fun p=>BelowOf.cell s1 p
  have s2':=fun p=>BelowOf.cell s2 p
  have y0':=fun p=>BelowOf.cell y0 p
  have y1':=fun p=>BelowOf.cell y1 p
  have y2':=fun p=>BelowOf.cell y2 p
  have m0':=fun (p:BelowOf w4)=>(blk_cell (blk_below HX4.out p.h) 0).trans (show _=some (.slice (some ady) b.length d0) from rfl)
  go_wp2;refine wp_region_quiet_below (by kernel_rfl) (by kernel_rfl) ?_
  repeat (go_big_quiet_step (exact below_calls (CM.out _)))
  refine wpQuiet_nil ?_;intro wq hw1;have HWQ:=Hd (show Below w4.heap.size w4 wq by obtain⟨p,rfl⟩:=hw1;exact p.h);clear hw1 s0' s1' s2' y0' y1' y2' m0';go_wp2;go_ret;exact⟨rfl,HB5.out.trans (HWQ.out.mono HB5.out.size)⟩
theorem compare_no (A0 B0:Option Addr) (c0 d0:Nat) (a b:List Vl) (w:World) (hr0:Kd.C kV w A0 a.length a) (hr1:Kd.C kV w B0 b.length b) (hc0:a.length<=c0) (hd0:b.length<=d0) (h:(rowMay a && rowMay b)=false) :
  Calls Tryz.prog 94 #[.slice A0 a.length c0,.slice B0 b.length d0] w fun e w'=>e = .returned (.int .i64 0)/\Below w.heap.size w w':=by
 have HA:=Hd hr0;have HBb:=Hd hr1;have HB1:=Hd (below_alloc (Below.refl _ w) (.cells #[.slice B0 b.length d0] 39 (0,0)));have M1:=Hd (fun (w1:World) (h:Below w.heap.size w w1)=>row_May.calls A0 c0 a (rowMay a) w1 (Kd.C_below HA.out h) hc0 rfl);have M2:=Hd (fun (w1:World) (h:Below w.heap.size w w1)=>row_May.calls B0 d0 b (rowMay b) w1 (Kd.C_below HBb.out h) hd0 rfl);generalize rowMay a=ma at M1 h;generalize rowMay b=mb at M2 h;clear hr0 hr1;cases ma
 ·clear M2 h
  go_enter Tryz.func94,Tryz.ntmps94
  go_wp2_with (go_at_call 77;(with_reducible refine (M1.out _ HB1.out).mono ?_);rintro e w1 ⟨rfl,hb1⟩;have HB2:=Hd (HB1.out.trans (hb1.mono HB1.out.size));clear hb1)
  go_ret;exact⟨rfl,HB2.out⟩
 ·obtain rfl:mb=false:=by simpa using h
  clear h;go_enter Tryz.func94,Tryz.ntmps94;have x0:=blk_cell (blk_new w (.cells #[.slice B0 b.length d0] 39 (0,0))) 0
  go_wp2_with (first
   | (go_at_call 77;(with_reducible refine (M1.out _ HB1.out).mono ?_);rintro e w1 ⟨rfl,hb1⟩;have HB2:=Hd (HB1.out.trans (hb1.mono HB1.out.size));have HX1:=Hd (blk_below (blk_new w (.cells #[.slice B0 b.length d0] 39 (0,0))) hb1);have x1:=blk_cell HX1.out 0;clear hb1)
   | (go_at_call 77;(with_reducible refine (M2.out _ HB2.out).mono ?_);rintro e w2 ⟨rfl,hb2⟩;have HB3:=Hd (HB2.out.trans (hb2.mono HB2.out.size));clear hb2))
  go_ret;exact⟨rfl,HB3.out⟩
theorem compare_calls (A0 B0:Option Addr) (c0 d0:Nat) (a b:List Vl) (w:World) (hr0:Kd.C kV w A0 a.length a) (hr1:Kd.C kV w B0 b.length b) (hc0:a.length<=c0) (hd0:b.length<=d0) :
  Calls Tryz.prog 94 #[.slice A0 a.length c0,.slice B0 b.length d0] w fun e w'=>e = .returned (.int .i64 (cmpR a b))/\Below w.heap.size w w':=by
 have hlen8:∀ x:List Vl,rowMay x=true->x.length<=8:=fun x h=>by
  unfold rowMay at h;exact ODT (Bool.and_eq_true_iff.1 h).1
 cases ha:rowMay a with
 | false =>
  rw[cmpR,ha];exact compare_no A0 B0 c0 d0 a b w hr0 hr1 hc0 hd0 (by rw[ha];rfl)
 | true =>
  cases hb:rowMay b with
  | false =>
   rw[cmpR,ha,hb];exact compare_no A0 B0 c0 d0 a b w hr0 hr1 hc0 hd0 (by rw[ha,hb];rfl)
  | true =>
   have h1:=hlen8 a ha;have h2:=hlen8 b hb;rw[cmpR,ha,hb,if_pos rfl,if_pos rfl]
   rcases Nat.lt_or_ge b.length a.length with h | h
   ·exact compare_tail2 A0 B0 c0 d0 a b w hr0 hr1 hc0 hd0 (by omega) (by omega) h ha hb
   ·exact compare_tail A0 B0 c0 d0 a b w hr0 hr1 hc0 hd0 (by omega) (by omega) h ha hb
end Go.Proofs.YtmkgecapkeojaaaGreat.Rw
end
section
namespace Go.Proofs.YtmkgecapkeojaaaGreat.Eg
open PDa
open RowKit Stp Rw Cmp
def tri (x:Vl):Int × Int × List UInt8:=(x.f0,x.f1,x.f2.data.toList)
theorem tri_inj {x y:Vl} (h:tri x=tri y):x=y:=by
 obtain⟨a,b,c⟩:=x;obtain⟨a',b',c'⟩:=y;simp only[tri,Prod.mk.injEq] at h;obtain⟨rfl,rfl,h3⟩:=h;obtain⟨⟨c⟩⟩:=c;obtain⟨⟨c'⟩⟩:=c';obtain rfl:c=c':=h3
 rfl
def triC:(Int × Int × List UInt8)->(Int × Int × List UInt8)->Int:=pairC icmp (pairC icmp (lexC bcmp))
theorem triC_is:IsCmp triC:=pairC_is icmp_is (pairC_is icmp_is (lexC_is bcmp_is))
def vC (x y:Vl):Int:=triC (tri x) (tri y)
theorem vC_is:IsCmp vC:=⟨fun x y=>by rw[vC,triC_is.zero];exact⟨tri_inj,fun h=>by rw[h]⟩,fun x y=>triC_is.anti _ _,fun x y z=>triC_is.trans _ _ _⟩
def rC:List Vl->List Vl->Int:=lexC vC
theorem rC_is:IsCmp rC:=lexC_is vC_is
theorem cmpV_vC {x y:Vl} (hx:(thOf x.f0 x.f1 x.f2).isSome=true) (hy:(thOf y.f0 y.f1 y.f2).isSome=true):cmpV x y=vC x y:=by
 have key:∀ z:Vl,(thOf z.f0 z.f1 z.f2).isSome=true->(z.f0=1/\z.f2.data.toList=[]/\thOf z.f0 z.f1 z.f2=some (.num z.f1))\/(z.f0=2/\z.f1=0/\thOf z.f0 z.f1 z.f2=some (.txt z.f2)):=by
  intro z hz;unfold thOf at hz ⊢
  by_cases h1:z.f0=1/\z.f2.toList=[]
  ·left
   refine⟨h1.1,?_,by rw[if_pos h1]⟩;rw[<- ByteArray.toList_eq];exact h1.2
  ·right
   rw[if_neg h1] at hz
   by_cases h2:z.f0=2/\z.f1=0/\z.f2.size<=64
   ·exact⟨h2.1,h2.2.1,by rw[if_neg h1,if_pos h2]⟩
   ·rw[if_neg h2] at hz;cases hz
 unfold cmpV vC triC tri pairC
 rcases key x hx with ⟨a1,a2,a3⟩ | ⟨a1,a2,a3⟩ <;> rcases key y hy with ⟨b1,b2,b3⟩ | ⟨b1,b2,b3⟩
 ·rw[a3,b3,a1,b1,a2,b2]
  simp only[icmp_is.self,if_true]
  show icmp x.f1 y.f1=_
  split
  ·rename_i e;rw[e];rfl
  ·rfl
 ·rw[a3,b3,a1,b1];rfl
 ·rw[a3,b3,a1,b1];rfl
 ·rw[a3,b3,a1,b1,a2,b2]
  simp only[icmp_is.self,if_true]
  show Lib.compareBytes _ _=_
  rw[compareBytes_lex]
theorem cmpL_rC:∀ (a b:List Vl),(∀ x ∈ a,(thOf x.f0 x.f1 x.f2).isSome=true)->(∀ x ∈ b,(thOf x.f0 x.f1 x.f2).isSome=true)->cmpL a b=rC a b
 | [],[],_,_=>rfl
 | [],y :: ys,_,_=>by
  show icmp _ _ = -1
  unfold icmp;rw[if_pos (by simp)]
 | x :: xs,[],_,_=>by
  show icmp _ _=1
  unfold icmp;rw[if_neg (by simp;omega),if_pos (by simp)]
 | x :: xs,y :: ys,ha,hb=>by
  have ih:=cmpL_rC xs ys (fun z hz=>ha z (List.mem_cons_of_mem _ hz)) (fun z hz=>hb z (List.mem_cons_of_mem _ hz));have hv:=cmpV_vC (ha x List.mem_cons_self) (hb y List.mem_cons_self)
  show _=if vC x y=0 then lexC vC xs ys else vC x y
  unfold cmpL;rw[diff]
  by_cases e:x=y
  ·rw[if_pos ((eqV_iff x y).2 e),if_pos ((vC_is.zero x y).2 e)]
   rw[show lexC vC xs ys=rC xs ys from rfl, <- ih];unfold cmpL
   split
   ·rfl
   ·simp only[List.length_cons,icmp]
    repeat' split
    all_goals first | rfl | omega
  ·rw[if_neg (fun h=>e ((eqV_iff x y).1 h)),if_neg (fun h=>e ((vC_is.zero x y).1 h))]
   exact hv
theorem rowMay_all {a:List Vl} (h:rowMay a=true):∀ x ∈ a,(thOf x.f0 x.f1 x.f2).isSome=true:=by
 unfold rowMay at h;rw[Bool.and_eq_true,List.all_eq_true] at h;exact h.2
theorem cmpR_rC {a b:List Vl} (ha:rowMay a=true) (hb:rowMay b=true):cmpR a b=rC a b:=by
 unfold cmpR;rw[if_pos ha,if_pos hb];exact cmpL_rC a b (rowMay_all ha) (rowMay_all hb)
def keyC:List Vl × Int->List Vl × Int->Int:=pairC rC icmp
theorem keyC_is:IsCmp keyC:=pairC_is rC_is icmp_is
end Go.Proofs.YtmkgecapkeojaaaGreat.Eg
end
section
namespace Go.Proofs.YtmkgecapkeojaaaGreat.EvP
open RowKit YtmkgecapkeojaaaGreatW.PrintWords YtmkgecapkeojaaaGreatW.PrintLast YtmkgecapkeojaaaGreatW.PrintMore
open PDa
abbrev O:=S68
abbrev Vl:=S65
def U {α:Type} (f:Nat->Option α) (r:α):Prop := ∃ k0, ∀ k,k0<=k->f k=some r
theorem U.succ {α:Type} {f:Nat->Option α} {r:α} (h:U (fun k=>f (k+1)) r):U f r:=by
 obtain⟨k0,h⟩:=h;refine⟨k0+1,fun k hk=>?_⟩;obtain⟨j,rfl⟩:∃ j,k=j+1:=⟨k - 1,by omega⟩
 exact h j zq4
theorem U.some {α:Type} (r:α):U (fun _=>some r) r:=⟨0,fun _ _=>rfl⟩
theorem U.const {α:Type} {x:Option α} {r:α} (h:x=Option.some r):U (fun _=>x) r:=⟨0,fun _ _=>h⟩
theorem U.bind {α β:Type} {f:Nat->Option α} {a:α} {g:Nat->α->Option β} {r:β} (hf:U f a) (hg:U (fun k=>g k a) r):U (fun k=>(f k).bind (g k)) r:=by
 obtain⟨k0,h0⟩:=hf;obtain⟨k1,h1⟩:=hg;refine⟨max k0 k1,fun k hk=>?_⟩
 show (f k).bind (g k)=_
 rw[h0 k zq4];exact h1 k zq4
theorem U.map {α β:Type} {f:Nat->Option α} {a:α} {g:α->β} (hf:U f a):U (fun k=>(f k).map g) (g a):=by
 obtain⟨k0,h0⟩:=hf;exact⟨k0,fun k hk=>by show (f k).map g=_;rw[h0 k hk];rfl⟩
theorem U.congr {α:Type} {f g:Nat->Option α} {r:α} (h:U f r) (e:∀ k,g k=f k):U g r:=by
 obtain⟨k0,h0⟩:=h;exact⟨k0,fun k hk=>(e k).trans (h0 k hk)⟩
theorem U.congr_r {α:Type} {f:Nat->Option α} {r s:α} (h:U f r) (e:r=s):U f s:=e ▸ h
theorem U.uniq {α:Type} {f:Nat->Option α} {r s:α} (h:U f r) (g:U f s):r=s:=by
 obtain⟨k0,h0⟩:=h;obtain⟨k1,h1⟩:=g;exact OSI ((h0 (max k0 k1) zq4).symm.trans (h1 (max k0 k1) zq4))
theorem U.pos {α:Type} {c:Prop} [Decidable c] {f g:Nat->Option α} {r:α} (h:c) (hf:U f r):U (fun k=>if c then f k else g k) r:=hf.congr fun _=>if_pos h
theorem U.neg {α:Type} {c:Prop} [Decidable c] {f g:Nat->Option α} {r:α} (h:¬ c) (hf:U g r):U (fun k=>if c then f k else g k) r:=hf.congr fun _=>if_neg h
theorem U.get {α:Type} {f:Nat->Option α} {r:α} (h:U f r):∃ k,f k=Option.some r:=by
 obtain⟨k0,h0⟩:=h;exact⟨k0,h0 k0 (Nat.le_refl _)⟩
theorem w64 {x:Int} (h0 : -9223372036854775808<=x) (h1:x<=9223372036854775807):wrap64 x=x:=by unfold wrap64;omega
def takes (c:Int):Int:=if c<1\/c > 20 then -1 else if c<=3 then 0 else if c<=6 then 1 else 2
theorem takes_E (c:Int):U (fun k=>expr_Takes.f k c) (takes c):=by
 refine⟨3,fun k hk=>?_⟩;obtain⟨j,rfl⟩:∃ j,k=j+3:=⟨k - 3,by omega⟩
 show expr_Takes.f (j+3) c=_
 unfold expr_Takes.f takes;simp only[expr_Takes.j0,expr_Takes.j1,decide_eq_true_eq,Bool.false_eq_true,if_false]
 repeat' split
 all_goals first | rfl | (exfalso;omega)
theorem takes_R (c:Int):U (fun k=>r17_Takes.f k c) (takes c):=by
 refine⟨3,fun k hk=>?_⟩;obtain⟨j,rfl⟩:∃ j,k=j+3:=⟨k - 3,by omega⟩
 show r17_Takes.f (j+3) c=_
 unfold r17_Takes.f takes;simp only[r17_Takes.j0,decide_eq_true_eq,Bool.false_eq_true,if_false,if_true]
 repeat' split
 all_goals first | rfl | (exfalso;omega)
def noT (t:ByteArray):Bool:=t.toList == ([]:List UInt8)
def okW (o:O):Bool :=
 if o.f0=1 then noT o.f2 else if o.f0=2 then decide (o.f1=0/\o.f2.size<=64) else if o.f0=3 then decide (0<=o.f1/\o.f1<8) && noT o.f2
 else decide (0<=takes o.f0/\o.f1=0) && noT o.f2
theorem word_E (o:O):U (fun k=>expr_word.f k o.f0 o.f1 o.f2) (okW o):=by
 obtain⟨c,n,t⟩:=o;unfold expr_word.f okW noT;simp only
 by_cases h1:c=1
 ·refine U.pos h1 ?_;rw[if_pos h1];exact U.some _
 refine U.neg h1 ?_;rw[if_neg h1]
 by_cases h2:c=2
 ·refine U.pos h2 ?_;rw[if_pos h2]
  by_cases h3:n=0
  ·refine U.pos h3 ?_;refine U.const ?_;congr 1;simp[h3];omega
  ·refine U.neg h3 ?_;refine U.const ?_;congr 1;simp[h3]
 refine U.neg h2 ?_;rw[if_neg h2]
 by_cases h3:c=3
 ·refine U.pos h3 ?_;rw[if_pos h3]
  by_cases h4:n >= 0
  ·refine U.pos h4 ?_
   by_cases h5:n<8
   ·refine U.pos h5 ?_;refine U.const ?_;simp[h5];omega
   ·refine U.neg h5 ?_;refine U.const ?_;simp[h5]
  ·refine U.neg h4 ?_;refine U.const ?_;simp;omega
 refine U.neg h3 ?_;rw[if_neg h3]
 refine U.bind (takes_E c) ?_
 by_cases h4:takes c >= 0
 ·refine U.pos h4 ?_
  by_cases h5:n=0
  ·refine U.pos h5 ?_;refine U.const ?_;simp[h5];omega
  ·refine U.neg h5 ?_;refine U.const ?_;simp[h5]
 ·refine U.neg h4 ?_;refine U.const ?_;simp;omega
theorem word_R (o:O):U (fun k=>r17_Word.f k o.f0 o.f1 o.f2) (okW o):=by
  obtain⟨c,n,t⟩:=o;refine U.bind (takes_R c) ?_;unfold okW noT;simp only
  have ht : takes c < 0 ↔ (c < 1 ∨ c > 20) := by unfold takes; repeat' split
                                                 all_goals omega
  by_cases h1:takes c<0
  · refine U.pos h1 ?_
    refine U.const ?_;have:=ht.1 h1;rw[if_neg zq4,if_neg zq4,if_neg zq4];simp;omega
  refine U.neg h1 ?_;have hj:∀ b:Bool,U (fun k=>r17_Word.j0 k b c n t) (if b then false else if c=1 then true else if c=3 then decide (0<=n/\n<8) else n == 0):=by
    intro b;refine U.succ ?_;simp only[r17_Word.j0]
    by_cases hb:b=true
    · refine U.pos hb ?_;subst hb;exact U.some _
    refine U.neg hb ?_;rw[if_neg hb]
    by_cases c1:c=1
    · refine U.pos c1 ?_;rw[if_pos c1];exact U.some _
    refine U.neg c1 ?_;rw[if_neg c1]
    by_cases c3:c=3
    · refine U.pos c3 ?_;rw[if_pos c3]
      by_cases n0:n >= 0
      · refine U.pos n0 ?_
        refine U.const ?_
        congr 1
        simp;omega
      · refine U.neg n0 ?_
        refine U.const ?_
        congr 1
        simp;omega
    refine U.neg c3 ?_;rw[if_neg c3];exact U.some _
  by_cases h2:c=2
  · subst h2
    refine U.pos rfl ?_;have:=hj (decide ((t.size:Int) > 64));refine this.congr_r ?_
    by_cases hs:t.size<=64
    · rw[if_neg zq33];simp[hs]
      by_cases hn:n=0 <;> simp[hn]
    · rw[if_pos zq33];simp[hs]
  refine U.neg h2 ?_;rw[if_neg h2]
  by_cases ht0:t.toList=[]
  · refine U.pos ht0 ?_
    have hsz:t.size=0:=by rw[(toList_nil_iff_emptyBytes t).1 ht0];rfl
    have:=hj (decide ((t.size:Int) > 64));refine this.congr_r ?_;rw[hsz,ht0];rw[if_neg zq30]
    by_cases c1:c=1
    · simp[c1]
    rw[if_neg c1,if_neg c1]
    by_cases c3:c=3
    · simp[c3]
    rw[if_neg c3,if_neg c3];have:0<=takes c:=by omega
    by_cases hn:n=0 <;> simp[hn,this]
  · refine U.neg ht0 ?_
    refine (hj true).congr_r ?_;rw[if_pos rfl]
    by_cases c1:c=1
    · simp[c1,ht0]
    rw[if_neg c1]
    by_cases c3:c=3
    · simp[c3,ht0]
    rw[if_neg c3];simp[ht0]
inductive T where
 | l (o:O)
 | u (o:O) (t:T)
 | b (o:O) (t s:T)
def T.fl:T->List O
 | .l o=>[o]
 | .u o t=>t.fl ++ [o]
 | .b o t s=>t.fl ++ (s.fl ++ [o])
def T.ok:T->Prop
 | .l o=>okW o=true/\takes o.f0=0
 | .u o t=>okW o=true/\takes o.f0=1/\t.ok
 | .b o t s=>okW o=true/\takes o.f0=2/\t.ok/\s.ok
theorem T.fl_pos (t:T):0<t.fl.length:=by cases t <;> simp[T.fl] <;> omega
theorem okW_takes {o:O} (h:okW o=true):takes o.f0=0\/takes o.f0=1\/takes o.f0=2:=by
  obtain⟨c,n,t⟩:=o
  have : takes c = -1 ∨ takes c = 0 ∨ takes c = 1 ∨ takes c = 2 := by unfold takes; repeat' split
                                                                      all_goals simp
  rcases this with h1 | h1
  · exfalso
    have hc:c<1\/c > 20:=by
      unfold takes at h1
      split at h1
      · assumption
      · split at h1
        · simp at h1
        · split at h1 <;> simp at h1
    unfold okW at h;simp only at h;rw[if_neg zq4,if_neg zq4,if_neg zq4,h1] at h;simp at h
  · exact h1
def push (o:O) (st:List T):Option (List T) :=
 if okW o=true then (if takes o.f0=0 then some (.l o :: st) else if takes o.f0=1 then (match st with
   | t :: st=>some (.u o t :: st)
   | []=>none) else (match st with
   | s :: t :: st=>some (.b o t s :: st)
   | _=>none)) else none
def parse:List O->List T->Option (List T)
 | [],st=>some st
 | o :: os,st=>(push o st).bind (parse os)
theorem parse_cons (o:O) (os:List O) (st:List T):parse (o :: os) st=(push o st).bind (parse os):=rfl
def flS:List T->List O
 | []=>[]
 | t :: st=>flS st ++ t.fl
theorem parse_inv:∀ (x:List O) (st st':List T),parse x st=some st'->flS st ++ x=flS st'/\((∀ t ∈ st,t.ok) -> ∀ t ∈ st',t.ok)
 | [],st,st',h=>by simp only[parse] at h;cases h;simp
 | o :: os,st,st',h=>by
  rw[parse_cons] at h;unfold push at h
  by_cases hw:okW o=true
  ·rw[if_pos hw] at h
   rcases okW_takes hw with h0 | h0 | h0
   ·rw[if_pos h0] at h
    obtain⟨a,b⟩:=parse_inv os _ st' h;refine⟨?_,fun hk=>b ?_⟩
    ·rw[<- a];simp[flS,T.fl]
    ·intro t ht
     rcases List.mem_cons.1 ht with rfl | ht
     ·exact⟨hw,h0⟩
     ·exact hk t ht
   ·rw[if_neg zq4,if_pos h0] at h
    cases st with
    | nil=>simp at h
    | cons t st =>
     obtain⟨a,b⟩:=parse_inv os _ st' h;refine⟨?_,fun hk=>b ?_⟩
     ·rw[<- a];simp[flS,T.fl]
     ·intro t' ht
      rcases List.mem_cons.1 ht with rfl | ht
      ·exact⟨hw,h0,hk t zq30⟩
      ·exact hk t' (by simp[ht])
   ·rw[if_neg zq4,if_neg zq4] at h
    match st,h with
    | s :: t :: st,h =>
     obtain⟨a,b⟩:=parse_inv os _ st' h;refine⟨?_,fun hk=>b ?_⟩
     ·rw[<- a];simp[flS,T.fl]
     ·intro t' ht
      rcases List.mem_cons.1 ht with rfl | ht
      ·exact⟨hw,h0,hk t zq30,hk s zq30⟩
      ·exact hk t' (by simp[ht])
  ·rw[if_neg hw] at h
   simp at h
theorem parse_fl:∀ (t:T),t.ok -> ∀ ys st,parse (t.fl ++ ys) st=parse ys (t :: st)
 | .l o,h,ys,st=>by
  show parse (o :: ys) st=_
  rw[parse_cons];unfold push;rw[if_pos h.1,if_pos h.2]
  rfl
 | .u o t,h,ys,st=>by
  show parse ((t.fl ++ [o]) ++ ys) st=_
  rw[List.append_assoc,parse_fl t h.2.2]
  show parse (o :: ys) (t :: st)=_
  have:=h.2.1;rw[parse_cons];unfold push;rw[if_pos h.1,if_neg zq4,if_pos this]
  rfl
 | .b o t s,h,ys,st=>by
  show parse ((t.fl ++ (s.fl ++ [o])) ++ ys) st=_
  rw[List.append_assoc,parse_fl t h.2.2.1,List.append_assoc,parse_fl s h.2.2.2]
  show parse (o :: ys) (s :: t :: st)=_
  have:=h.2.1;rw[parse_cons];unfold push;rw[if_pos h.1,if_neg zq4,if_neg zq4]
  rfl
def formR (r:Option (List T)):Int:=match r with
 | some [_]=>0
 | _=>18
theorem formR_0 {r:Option (List T)} (h:formR r=0):∃ t,r=some [t]:=by
 unfold formR at h
 split at h
 ·exact⟨_,rfl⟩
 ·simp at h
theorem formR_or (r:Option (List T)):formR r=0\/formR r=18:=by
 unfold formR
 split
 ·exact .inl rfl
 ·exact .inr rfl
theorem parse_one {x:List O} {t:T} (h:parse x []=some [t]):t.ok/\x=t.fl:=by
 obtain⟨a,b⟩:=parse_inv x [] [t] h;exact⟨b zq30 t zq30,by simpa [flS] using a⟩
theorem rd_at (p:List O) (o:O) (q:List O):rd_T68 (p ++ o :: q) (p.length:Int)=o:=by
 unfold rd_T68;simp
theorem form_l0 (x:List O) (hx:x.length<=64):∀ (ys p:List O) (st:List T),x=p ++ ys->st.length<=p.length->U (fun k=>expr_Form.l0 k (st.length:Int) x (x.length:Int) (p.length:Int)) (formR (parse ys st))
 | [],p,st,h,hs=>by
  refine U.succ ?_;simp only[expr_Form.l0];refine U.neg (by rw[h];simp) ?_
  match st with
  | []=>exact U.some _
  | [t]=>exact U.some _
  | s :: t :: st =>
   refine U.neg zq33 ?_;exact U.some _
 | o :: os,p,st,h,hs=>by
  have hl:x.length=p.length+(os.length+1):=by rw[h];simp
  refine U.succ ?_;simp only[expr_Form.l0];refine U.pos zq4 (U.pos zq4 (U.pos zq4 ?_));rw[h,rd_at, <- h];refine U.bind (word_E o) ?_;have ih:=fun st'=>form_l0 x hx os (p ++ [o]) st' (by rw[h];simp)
  have hp:wrap64 ((p.length:Int)+1)=((p ++ [o]).length:Int):=by rw[w64 zq4 zq4];simp
  rw[parse_cons];unfold push
  by_cases hw:okW o=true
  ·refine U.pos hw ?_
   rw[if_pos hw];refine U.bind (takes_E o.f0) ?_
   rcases okW_takes hw with h0 | h0 | h0
   ·rw[if_pos h0]
    refine U.neg zq4 (U.bind (takes_E o.f0) ?_);have:=ih (.l o :: st) zq33;rw[h0,hp];refine this.congr fun k=>?_
    congr 1
    rw[w64 (x:=1 - 0) zq4 zq4,w64 zq4 zq4];simp
   ·rw[if_neg zq4,if_pos h0]
    match st,hs with
    | [],hs=>exact U.pos zq33 (U.some _)
    | t :: st,hs =>
     simp at hs;refine U.neg zq33 (U.bind (takes_E o.f0) ?_);have:=ih (.u o t :: st) zq33;rw[h0,hp];refine this.congr fun k=>?_
     congr 1
     rw[w64 (x:=1 - 1) zq4 zq4,w64 zq33 zq33];simp
   ·rw[if_neg zq4,if_neg zq4]
    match st,hs with
    | [],hs=>exact U.pos zq33 (U.some _)
    | [t],hs=>exact U.pos zq33 (U.some _)
    | s :: t :: st,hs =>
     simp at hs;refine U.neg zq33 (U.bind (takes_E o.f0) ?_);have:=ih (.b o t s :: st) zq33;rw[h0,hp];refine this.congr fun k=>?_
     congr 1
     rw[w64 (x:=1 - 2) zq4 zq4,w64 zq33 zq33];simp;omega
  ·refine U.neg hw ?_
   rw[if_neg hw];exact U.some _
def formV (x:List O):Int:=if x.length > 64 then 6 else formR (parse x [])
theorem form_E (x:List O):U (fun k=>expr_Form.f k x) (formV x):=by
 unfold expr_Form.f formV
 by_cases h:x.length > 64
 ·rw[if_pos h];exact U.pos zq4 (U.some _)
 ·rw[if_neg h]
  exact U.neg zq4 (form_l0 x zq4 x [] [] rfl zq30)
theorem last_ix (q:List O) (o:O) (hl:(q ++ [o]).length<=64):wrap64 (((q ++ [o]).length:Int) - 1)=(q.length:Int):=by
 simp at hl;rw[w64 (by simp <;> omega) (by simp <;> omega)];simp
theorem last_at (q:List O) (o:O) (hl:(q ++ [o]).length<=64):rd_T68 (q ++ [o]) (wrap64 (((q ++ [o]).length:Int) - 1))=o:=by
 rw[last_ix q o hl];exact rd_at q o []
theorem tl_head (q:List O) (o:O) (hl:(q ++ [o]).length<=64) (n i r:Int)
  (h:U (fun k=>if i<takes o.f0 then (if 0<=(wrap64 (((q ++ [o]).length:Int) - n)) then (if (wrap64 (((q ++ [o]).length:Int) - n))<=((q ++ [o]).length:Int) then ((r17_Tail.f k ((q ++ [o]).take ((wrap64 (((q ++ [o]).length:Int) - n)):Int).toNat)).bind fun t=>(if t=0 then (some 0) else (r17_Tail.l0 k (q ++ [o]) (wrap64 (n+t)) (wrap64 (i+1))))) else (none)) else (none)) else (some n)) r) :
  U (fun k=>r17_Tail.l0 k (q ++ [o]) n i) r:=by
 have hl':=hl;simp at hl';refine U.succ ?_;simp only[r17_Tail.l0];rw[last_at q o hl];refine U.pos (by rw[last_ix q o hl];omega) (U.pos (by rw[last_ix q o hl];simp;omega) (U.bind (takes_R o.f0) h))
theorem tl_done (q:List O) (o:O) (hl:(q ++ [o]).length<=64) (n i:Int) (h:¬ i<takes o.f0):U (fun k=>r17_Tail.l0 k (q ++ [o]) n i) n :=
 tl_head q o hl n i n (U.neg h (U.some _))
theorem tl_more (q:List O) (o:O) (hl:(q ++ [o]).length<=64) (p ys:List O) (hx:q ++ [o]=p ++ ys) (i r m:Int) (h:i<takes o.f0) (hi:0<=i/\i<=2) (ht:U (fun k=>r17_Tail.f k p) m)
  (hm:0<=m/\m<=64) (hr:if m=0 then r=0 else U (fun k=>r17_Tail.l0 k (q ++ [o]) ((ys.length:Int)+m) (i+1)) r) :
  U (fun k=>r17_Tail.l0 k (q ++ [o]) (ys.length:Int) i) r:=by
 have hlen:(q ++ [o]).length=p.length+ys.length:=by rw[hx];simp
 have hw:wrap64 (((q ++ [o]).length:Int) - (ys.length:Int))=(p.length:Int):=by rw[w64 zq4 zq4];omega
 refine tl_head q o hl _ i r (U.pos h ?_);rw[hw];have htk:(q ++ [o]).take ((p.length:Int)).toNat=p:=by rw[hx];simp
 rw[htk];refine U.pos zq4 (U.pos zq4 (U.bind ht ?_))
 by_cases h0:m=0
 ·rw[if_pos h0] at hr
  rw[hr];exact U.pos h0 (U.some _)
 ·rw[if_neg h0] at hr
  refine U.neg h0 ?_;rw[w64 zq4 zq4,w64 zq4 zq4];exact hr
theorem tail_nil:U (fun k=>r17_Tail.f k []) 0:=by
 refine U.succ ?_;simp only[r17_Tail.f];refine U.pos zq30 (U.succ ?_);simp only[r17_Tail.j0];exact U.pos trivial (U.some _)
theorem tail_word (q:List O) (o:O) (hl:(q ++ [o]).length<=64) (r:Int) (h:if okW o=true then U (fun k=>r17_Tail.l0 k (q ++ [o]) 1 0) r else r=0):U (fun k=>r17_Tail.f k (q ++ [o])) r:=by
 have hl':=hl;simp at hl';refine U.succ ?_;simp only[r17_Tail.f];rw[last_at q o hl];refine U.neg zq33 (U.pos (by rw[last_ix q o hl];omega) (U.pos (by rw[last_ix q o hl];simp;omega) (U.bind (word_R o) (U.succ ?_))));simp only[r17_Tail.j0]
 by_cases hw:okW o=true
 ·rw[if_pos hw] at h
  exact U.neg (by simp[hw]) h
 ·rw[if_neg hw] at h
  rw[h];exact U.pos (by simp[hw]) (U.some _)
theorem tail_C:∀ (t:T),t.ok -> ∀ p:List O,(p ++ t.fl).length<=64->U (fun k=>r17_Tail.f k (p ++ t.fl)) (t.fl.length:Int)
 | .l o,h,p,hl=>by
  refine tail_word p o hl _ ?_;rw[if_pos h.1];exact tl_done p o hl 1 0 (by rw[h.2];omega)
 | .u o t,h,p,hl=>by
  have e:p ++ (T.u o t).fl=(p ++ t.fl) ++ [o]:=by simp[T.fl]
  have hn:((T.u o t).fl.length:Int)=(([o]:List O).length:Int)+(t.fl.length:Int):=by simp[T.fl];omega
  have hp:=t.fl_pos;rw[e] at hl ⊢;have hl':=hl;simp at hl';have h1:=h.2.1;refine tail_word _ o hl _ ?_;rw[if_pos h.1];refine tl_more _ o hl (p ++ t.fl) [o] rfl 0 _ (t.fl.length:Int) zq4 zq4 (tail_C t h.2.2 p zq33) zq4 ?_;rw[if_neg zq4,hn];exact tl_done _ o hl _ _ zq4
 | .b o t s,h,p,hl=>by
  have e:p ++ (T.b o t s).fl=((p ++ t.fl) ++ s.fl) ++ [o]:=by simp[T.fl]
  have hn:((T.b o t s).fl.length:Int)=((s.fl ++ [o]).length:Int)+(t.fl.length:Int):=by simp[T.fl];omega
  have hn2:((s.fl ++ [o]).length:Int)=(([o]:List O).length:Int)+(s.fl.length:Int):=by simp;omega
  have hp:=t.fl_pos;have hq:=s.fl_pos;rw[e] at hl ⊢;have hl':=hl;simp at hl';have h1:=h.2.1;refine tail_word _ o hl _ ?_;rw[if_pos h.1];refine tl_more _ o hl ((p ++ t.fl) ++ s.fl) [o] rfl 0 _ (s.fl.length:Int) zq4 zq4 (tail_C s h.2.2.2 (p ++ t.fl) zq33) zq4 ?_;rw[if_neg zq4, <- hn2];refine tl_more _ o hl (p ++ t.fl) (s.fl ++ [o]) zq30 (0+1) _ (t.fl.length:Int) zq4 zq4 (tail_C t h.2.2.1 p zq33) zq4 ?_;rw[if_neg zq4, <- hn];exact tl_done _ o hl _ _ zq4
theorem tail_S:∀ (n:Nat) (x:List O),x.length<=n->x.length<=64 -> ∃ r:Int,U (fun k=>r17_Tail.f k x) r/\0<=r/\r<=64/\(r=0 \/ ∃ p t,T.ok t/\x=p ++ t.fl/\r=(t.fl.length:Int))
 | 0,x,h,_=>by
  obtain rfl:x=[]:=List.eq_nil_of_length_eq_zero zq4;exact⟨0,tail_nil,by omega,by omega,.inl rfl⟩
 | n+1,x,h,hl=>by
  rcases List.eq_nil_or_concat x with rfl | ⟨q,o,hq⟩
  ·exact⟨0,tail_nil,by omega,by omega,.inl rfl⟩
  rw[List.concat_eq_append] at hq;subst hq;have hl':=hl;have h':=h;simp at hl' h'
  by_cases hw:okW o=true
  ·have wrd:∀ r,U (fun k=>r17_Tail.l0 k (q ++ [o]) 1 0) r->U (fun k=>r17_Tail.f k (q ++ [o])) r:=fun r hr=>tail_word q o hl r (by rw[if_pos hw];exact hr)
   rcases okW_takes hw with h0 | h0 | h0
   ·exact⟨1,wrd _ (tl_done q o hl 1 0 zq4),by omega,by omega,.inr ⟨q,.l o,⟨hw,h0⟩,rfl,rfl⟩⟩
   ·obtain⟨m,hm,m0,m1,hc⟩:=tail_S n q zq4 zq4
    rcases hc with rfl | ⟨p,t,ht,rfl,rfl⟩
    ·exact⟨0,wrd _ (tl_more q o hl q [o] rfl 0 0 0 zq4 zq4 hm zq4 (by rw[if_pos rfl])),by omega,by omega,.inl rfl⟩
    ·have hp:=t.fl_pos
     simp at hl';refine⟨(([o]:List O).length:Int)+(t.fl.length:Int),wrd _ (tl_more _ o hl (p ++ t.fl) [o] rfl 0 _ (t.fl.length:Int) zq4 zq4 hm zq4 ?_),by omega,by simp;omega,.inr ⟨p,.u o t,⟨hw,h0,ht⟩,by simp[T.fl],by simp[T.fl];omega⟩⟩;rw[if_neg zq4];exact tl_done _ o hl _ _ zq4
   ·obtain⟨m,hm,m0,m1,hc⟩:=tail_S n q zq4 zq4
    rcases hc with rfl | ⟨p,s,hs,rfl,rfl⟩
    ·exact⟨0,wrd _ (tl_more q o hl q [o] rfl 0 0 0 zq4 zq4 hm zq4 (by rw[if_pos rfl])),by omega,by omega,.inl rfl⟩
    ·have hp:=s.fl_pos
     simp at hl' h';have hn2:((s.fl ++ [o]).length:Int)=(([o]:List O).length:Int)+(s.fl.length:Int):=by simp;omega
     obtain⟨m',hm',m0',m1',hc'⟩:=tail_S n p zq4 zq4
     rcases hc' with rfl | ⟨p',t,ht,rfl,rfl⟩
     ·refine⟨0,wrd _ (tl_more _ o hl (p ++ s.fl) [o] rfl 0 _ (s.fl.length:Int) zq4 zq4 hm zq4 ?_),by omega,by omega,.inl rfl⟩
      rw[if_neg zq4, <- hn2];exact tl_more _ o hl p (s.fl ++ [o]) zq30 (0+1) _ 0 zq4 zq4 hm' zq4 (by rw[if_pos rfl])
     ·have hq:=t.fl_pos
      simp at hl' h';refine⟨((s.fl ++ [o]).length:Int)+(t.fl.length:Int),wrd _ (tl_more _ o hl ((p' ++ t.fl) ++ s.fl) [o] rfl 0 _ (s.fl.length:Int) zq4 zq4 hm zq4 ?_),by omega,by simp;omega,.inr ⟨p',.b o t s,⟨hw,h0,ht,hs⟩,by simp[T.fl],by simp[T.fl];omega⟩⟩;rw[if_neg zq4, <- hn2];refine tl_more _ o hl (p' ++ t.fl) (s.fl ++ [o]) zq30 (0+1) _ (t.fl.length:Int) zq4 zq4 hm' zq4 ?_;rw[if_neg zq4];exact tl_done _ o hl _ _ zq4
  ·exact⟨0,tail_word q o hl 0 (by rw[if_neg hw]),by omega,by omega,.inl rfl⟩
theorem form_R (x:List O):U (fun k=>r17_Form.f k x) (formV x):=by
 unfold r17_Form.f formV
 by_cases h:x.length > 64
 ·rw[if_pos h];exact U.pos zq4 (U.some _)
 rw[if_neg h];refine U.neg zq4 ?_
 by_cases h0:x=[]
 ·subst h0;exact U.pos zq30 (U.some _)
 have hx0:x.length ≠ 0:=fun e=>h0 (List.eq_nil_of_length_eq_zero e)
 refine U.neg zq4 ?_;obtain⟨r,hr,r0,r1,hc⟩:=tail_S x.length x (Nat.le_refl _) zq4;refine U.bind hr ?_
 by_cases he:r=(x.length:Int)
 ·rw[if_pos he]
  rcases hc with rfl | ⟨p,t,ht,hx,hrt⟩
  ·exact absurd he zq4
  have hp:p=[]:=by
   apply List.eq_nil_of_length_eq_zero;have:=congrArg List.length hx;simp at this;omega
  subst hp;have:=parse_fl t ht [] [];rw[List.append_nil] at this;rw[List.nil_append] at hx;rw[hx,this];exact U.some _
 ·rw[if_neg he]
  rcases formR_or (parse x []) with h1 | h1
  ·exfalso
   obtain⟨t,ht⟩:=formR_0 h1;obtain⟨tk,hxt⟩:=parse_one ht;have:=tail_C t tk [] (by rw[<- hxt];simp;omega);rw[List.nil_append, <- hxt] at this;exact he (hr.uniq this)
  ·rw[h1];exact U.some _
theorem formV_0 {x:List O} (h:formV x=0):∃ t,T.ok t/\x=t.fl/\x.length<=64:=by
 unfold formV at h
 split at h
 ·simp at h
 ·obtain⟨t,ht⟩:=formR_0 h
  exact⟨t,(parse_one ht).1,(parse_one ht).2,by omega⟩
def T.kids:T->List (List O)
 | .l _=>[]
 | .u _ t=>[t.fl]
 | .b _ t s=>[t.fl,s.fl]
def T.top:T->O
 | .l o=>o
 | .u o _=>o
 | .b o _ _=>o
def R64 (x:Int):Prop := -9223372036854775808<=x/\x<=9223372036854775807
theorem R64.of_wf {x:Int} (h:(Lit.int .i64 x).wf=true):R64 x:=by
 simp only[Lit.wf,Bool.and_eq_true,decide_eq_true_eq] at h;unfold R64;have h1:IntKind.min .i64 = -9223372036854775808:=by decide
 have h2:IntKind.max .i64=9223372036854775807:=by decide
 omega
def okI (x:Int):Int × Int:=if -9223372036854775808<=x/\x<=9223372036854775807 then (x,0) else (0,10)
def quoS (a b:Int):Int × Int:=if b=0 then (0,11) else okI (a.tdiv b)
def remS (a b:Int):Int × Int:=if b=0 then (0,11) else (a.tmod b,0)
theorem okI_in {x:Int} (h:R64 x):okI x=(x,0):=if_pos h
theorem okI_out {x:Int} (h:¬ R64 x):okI x=(0,10):=if_neg h
theorem nat_tdiv (a b:Int):(a.tdiv b).natAbs=a.natAbs / b.natAbs:=Int.natAbs_tdiv a b
theorem u64w (x:Int):IntKind.u64.wrap x=x % 18446744073709551616:=rfl
theorem size_eq (a:Int) (h:R64 a):num_size.f a=some ((a.natAbs:Int),decide (a<0)):=by
 unfold R64 at h;unfold num_size.f
 by_cases c:a<0
 ·rw[if_pos c,u64w,u64w,DET c]
  congr 2
  omega
 ·rw[if_neg c,u64w,DEF c]
  congr 2
  omega
theorem signed_eq (k:Nat) (x:Int) (b:Bool) (h0:0<=x) (h1:x<18446744073709551616) :
  num_signed.f (k+1) x b=some (okI (if b then -x else x)):=by
 unfold num_signed.f;cases b
 ·simp only[Bool.false_eq_true,if_false]
  unfold num_signed.j0;simp only[Bool.false_eq_true,if_false];unfold okI
  split
  ·rw[if_pos zq4];unfold wrap64;congr 2;omega
  ·rw[if_neg zq4]
 ·simp only[if_true]
  unfold num_signed.j0;dsimp only;unfold okI
  by_cases c:x<=9223372036854775808
  ·rw[if_pos (by simpa using c),if_pos zq4,u64w];unfold wrap64;congr 2;omega
  ·rw[if_neg (by simpa using c),if_pos rfl,if_neg zq4]
theorem add_eq (a b:Int) (ha:R64 a) (hb:R64 b):num_Add.f a b=some (okI (a+b)):=by
 unfold R64 at ha hb;unfold num_Add.f okI wrap64
 by_cases c:b<0
 ·simp only[DET c]
  split
  ·rename_i h
   simp at h;rw[if_neg zq4]
  ·rename_i h
   simp at h;rw[if_pos zq4];congr 2;omega
 ·simp only[DEF c]
  split
  ·rename_i h
   simp at h;rw[if_neg zq4]
  ·rename_i h
   simp at h;rw[if_pos zq4];congr 2;omega
theorem sub_eq (a b:Int) (ha:R64 a) (hb:R64 b):num_Sub.f a b=some (okI (a - b)):=by
 unfold R64 at ha hb;unfold num_Sub.f okI wrap64
 by_cases c:b<0
 ·simp only[DET c]
  split
  ·rename_i h
   simp at h;rw[if_neg zq4]
  ·rename_i h
   simp at h;rw[if_pos zq4];congr 2;omega
 ·simp only[DEF c]
  split
  ·rename_i h
   simp at h;rw[if_neg zq4]
  ·rename_i h
   simp at h;rw[if_pos zq4];congr 2;omega
theorem refAdd_eq (a b:Int) (ha:R64 a) (hb:R64 b):r01_Add.f a b=some (okI (a+b)):=by
 unfold R64 at ha hb;unfold r01_Add.f okI wrap64
 repeat' split
 all_goals first
  | (exfalso;omega)
  | rfl
  | (congr 2;omega)
theorem refSub_eq (a b:Int) (ha:R64 a) (hb:R64 b):r01_Sub.f a b=some (okI (a - b)):=by
 unfold R64 at ha hb;unfold r01_Sub.f okI wrap64
 repeat' split
 all_goals first
  | (exfalso;omega)
  | rfl
  | (congr 2;omega)
theorem neg_eq (k:Nat) (a:Int) (ha:R64 a):num_Neg.f (k+1) a=some (okI (0 - a)):=by
 unfold num_Neg.f;rw[size_eq a ha];simp only[Option.bind_some];rw[signed_eq k _ _ zq4 (by unfold R64 at ha;omega)];simp only[Option.bind_some];unfold R64 at ha
 by_cases c:a<0
 ·rw[DET c];exact congrArg (fun z=>some (okI z)) zq33
 ·rw[DEF c];exact congrArg (fun z=>some (okI z)) zq33
theorem refNeg_eq (a:Int) (ha:R64 a):r01_Neg.f a=some (okI (0 - a)):=by
 unfold r01_Neg.f;rw[refSub_eq 0 a (by unfold R64;omega) ha]
 rfl
theorem and32 (x:Nat) (h:x<18446744073709551616):bits .and .u64 (x:Int) 4294967295=((x % 4294967296:Nat):Int):=by
 have:=u64_and_nat x 4294967295 h zq4;rw[show ((4294967295:Nat):Int)=4294967295 from rfl] at this;rw[this]
 congr 1
 exact Nat.and_two_pow_sub_one_eq_mod x 32
theorem mul64_eq (x y:Nat) (hx:x<18446744073709551616) (hy:y<18446744073709551616) :
  bits_Mul64.f x y=some (((x*y / 18446744073709551616:Nat):Int),((x*y % 18446744073709551616:Nat):Int)):=by
 obtain⟨h1,h2,h3,h4⟩:=Lib.mul64_hi x y hx hy;unfold bits_Mul64.f;rw[and32 x hx,and32 y hy];have hb:=Lib.half_mul_le (a:=x / 4294967296) (b:=y / 4294967296) zq4 zq4;have hc:=Lib.half_mul_le (a:=x / 4294967296) (b:=y % 4294967296) zq4 zq4;have hd:=Lib.half_mul_le (a:=x % 4294967296) (b:=y / 4294967296) zq4 zq4;have wn:∀ n:Nat,n<18446744073709551616->IntKind.u64.wrap (n:Int)=(n:Int):=fun n hn=>by rw[u64w];omega
 have e1:(x:Int) / 4294967296=((x / 4294967296:Nat):Int):=rfl;have e2:(y:Int) / 4294967296=((y / 4294967296:Nat):Int):=rfl;rw[e1,e2];simp only[<- Int.natCast_mul];rw[wn _ (show x / 4294967296*(y / 4294967296)<18446744073709551616 by omega)];rw[wn _ (show x / 4294967296*(y % 4294967296)<18446744073709551616 by omega)];rw[wn _ (show x % 4294967296*(y / 4294967296)<18446744073709551616 by omega)];rw[wn _ h1];have e3:((x % 4294967296*(y % 4294967296):Nat):Int) / 4294967296=((x % 4294967296*(y % 4294967296) / 4294967296:Nat):Int):=rfl;rw[e3, <- Int.natCast_add,wn _ h2,and32 _ h2, <- Int.natCast_add,wn _ h3];generalize hA:x / 4294967296*(y / 4294967296)=A at *;generalize hT:x / 4294967296*(y % 4294967296)+x % 4294967296*(y % 4294967296) / 4294967296=T at *;generalize hU:T % 4294967296+x % 4294967296*(y / 4294967296)=U at *;have e4:(T:Int) / 4294967296=((T / 4294967296:Nat):Int):=rfl;have e5:(U:Int) / 4294967296=((U / 4294967296:Nat):Int):=rfl;rw[e4,e5, <- Int.natCast_add,wn (A+T / 4294967296) zq4, <- Int.natCast_add];have hlt:x*y / 18446744073709551616<18446744073709551616:=Nat.div_lt_of_lt_mul (Nat.mul_lt_mul'' hx hy);rw[wn _ zq4,h4]
 rfl
theorem abs_mul (a b:Int):((a.natAbs*b.natAbs:Nat):Int)=if (decide (a<0) != decide (b<0))=true then -(a*b) else a*b:=by
 rw[<- Int.natAbs_mul]
 by_cases ca:a<0 <;> by_cases cb:b<0
 ·have:0<=a*b:=Int.mul_nonneg_of_nonpos_of_nonpos zq4 zq4
  simp[ca,cb];omega
 ·have:a*b<=0:=Int.mul_nonpos_of_nonpos_of_nonneg zq4 zq4
  simp[ca,cb];omega
 ·have:a*b<=0:=Int.mul_nonpos_of_nonneg_of_nonpos zq4 zq4
  simp[ca,cb];omega
 ·have:0<=a*b:=Int.mul_nonneg zq4 zq4
  simp[ca,cb];omega
theorem tmod_abs (a b:Int):a.tmod b=if decide (a<0)=true then -((a.natAbs % b.natAbs:Nat):Int) else ((a.natAbs % b.natAbs:Nat):Int):=by
 have hb:a.tmod b=a.tmod (b.natAbs:Int):=by
  rcases Int.natAbs_eq b with h' | h'
  ·rw[<- h']
  ·conv=>lhs;rw[h',Int.tmod_neg]
 rw[hb]
 rcases Int.natAbs_eq a with h | h
 ·have h1:¬ a<0:=by omega
  simp only[h1,decide_false,Bool.false_eq_true,if_false]
  conv=>lhs;rw[h]
  rfl
 ·by_cases ha0:a.natAbs=0
  ·have:a=0:=by omega
   subst this;simp
  have h1:a<0:=by omega
  simp only[h1,decide_true,if_true]
  conv=>lhs;rw[h,Int.neg_tmod]
  rfl
theorem tmod_lt (a b:Int) (hb:b ≠ 0):(a.tmod b).natAbs<b.natAbs:=by
 have h:=tmod_abs a b;have hlt:a.natAbs % b.natAbs<b.natAbs:=Nat.mod_lt _ zq4;generalize a.natAbs % b.natAbs=q at *
 split at h <;> omega
theorem mul_eq (k:Nat) (a b:Int) (ha:R64 a) (hb:R64 b):num_Mul.f (k+1) a b=some (okI (a*b)):=by
 have ha':=ha;have hb':=hb
 unfold R64 at ha' hb';unfold num_Mul.f;rw[size_eq a ha,size_eq b hb];simp only[Option.bind_some];rw[mul64_eq _ _ zq4 zq4];simp only[Option.bind_some];have hm:=abs_mul a b
 by_cases c:(decide (a<0) != decide (b<0))=true
 ·rw[if_pos c] at hm
  rw[signed_eq k _ _ zq4 zq4,c];generalize a*b=p at *;generalize a.natAbs*b.natAbs=n at *
  split
  ·rename_i h0
   simp only[Option.bind_some,if_true];exact congrArg (fun z=>some (okI z)) zq4
  ·rename_i h0
   rw[okI_out (by unfold R64;omega)]
 ·rw[if_neg c] at hm
  rw[signed_eq k _ _ zq4 zq4];simp only[Bool.not_eq_true] at c;rw[c];generalize a*b=p at *;generalize a.natAbs*b.natAbs=n at *
  split
  ·rename_i h0
   simp only[Option.bind_some,Bool.false_eq_true,if_false];exact congrArg (fun z=>some (okI z)) zq4
  ·rename_i h0
   rw[okI_out (by unfold R64;omega)]
theorem refMul_eq (k:Nat) (a b:Int) (ha:R64 a) (hb:R64 b):r01_Mul.f (k+2) a b=some (okI (a*b)):=by
 have ha':=ha;have hb':=hb
 unfold R64 at ha' hb';unfold r01_Mul.f
 by_cases a0:a=0
 ·subst a0;simp[r01_Mul.j0,okI]
 rw[if_neg a0]
 by_cases b0:b=0
 ·subst b0;simp[r01_Mul.j0,okI]
 have b0':(b == 0)=false:=beq_eq_false_iff_ne.2 b0;rw[b0'];unfold r01_Mul.j0;simp only[Bool.false_eq_true,if_false];have key:r01_Mul.j1 (k+1) a b false=if wrap64 ((wrap64 (a*b)).tdiv b)=a then some (wrap64 (a*b),0) else some (0,10):=by
  unfold r01_Mul.j1;simp only[Bool.false_eq_true,if_false,b0]
 have keyT:r01_Mul.j1 (k+1) a b true=some (0,10):=by
  unfold r01_Mul.j1;simp only[if_true]
 have main:¬ (a = -1/\b = -9223372036854775808) -> ¬ (b = -1/\a = -9223372036854775808)->r01_Mul.j1 (k+1) a b false=some (okI (a*b)):=by
  intro n1 n2;rw[key]
  by_cases c:R64 (a*b)
  ·have hw:wrap64 (a*b)=a*b:=by unfold R64 at c;unfold wrap64;omega
   rw[hw,Int.mul_tdiv_cancel _ b0,if_pos (by unfold wrap64;omega),okI_in c]
  ·rw[okI_out c,if_neg]
   intro h;generalize hp:wrap64 (a*b)=p at h;have hpr:R64 p:=by rw[<- hp];unfold R64 wrap64;omega
   unfold R64 at hpr;have hd:(p.tdiv b).natAbs<=p.natAbs:=by rw[nat_tdiv];exact Nat.div_le_self _ _
   have hq:p.tdiv b=a\/(p = -9223372036854775808/\b = -1):=by
    by_cases hpm:p = -9223372036854775808
    ·by_cases hb1:b = -1
     ·exact Or.inr ⟨hpm,hb1⟩
     ·left
      have:(p.tdiv b).natAbs<=9223372036854775807:=by
       rw[nat_tdiv]
       by_cases hb2:b=1
       ·subst hb2 hpm
        exfalso;simp only[Int.tdiv_one,Int.mul_one] at h hp c;unfold wrap64 at h;apply c;unfold R64;omega
       ·have:2<=b.natAbs:=by omega
        have h3:p.natAbs / b.natAbs<=p.natAbs / 2:=Nat.div_le_div_left this zq4;generalize p.natAbs / b.natAbs=q at *;omega
      unfold wrap64 at h;omega
    ·left
     unfold wrap64 at h;omega
   rcases hq with hq | ⟨hp1,hb1⟩
   ·
    have hr:=Int.tdiv_mul_add_tmod p b;rw[hq] at hr;apply c;have hz:¬ (a*b).natAbs > p.natAbs:=by
     intro hgt;rw[Int.natAbs_mul] at hgt;have:a.natAbs*b.natAbs<=p.natAbs:=by
      rw[<- hq,nat_tdiv];exact Nat.div_mul_le_self _ _
     omega
    have:R64 (a*b)\/(a*b=9223372036854775808):=by unfold R64;omega
    rcases this with h1 | h1
    ·exact h1
    ·exfalso
     rw[h1] at hp;have hp':p = -9223372036854775808:=by rw[<- hp];unfold wrap64;omega
     rw[hp'] at hr;rw[h1] at hr;have hs:0 <= -(Int.tmod (-9223372036854775808) b):=by
      have:=Int.tmod_nonneg b (show (0:Int)<=9223372036854775808 by omega);rw[show (-9223372036854775808:Int) = -(9223372036854775808) from rfl,Int.neg_tmod];omega
     have hlt : -(Int.tmod (-9223372036854775808) b)<b.natAbs:=by
      have:=tmod_lt (-9223372036854775808) b b0;omega
     omega
   ·subst hb1
    have:a = -9223372036854775808:=by
     rw[hp1] at h;have e:Int.tdiv (-9223372036854775808) (-1)=9223372036854775808:=by decide
     rw[e] at h;rw[<- h];unfold wrap64;omega
    exact n2 ⟨rfl,this⟩
 by_cases c1:a = -1
 ·rw[if_pos c1]
  by_cases c2:b = -9223372036854775808
  ·rw[if_pos c2,keyT,c1,c2]
   rfl
  ·rw[if_neg c2]
   have e:(a == -9223372036854775808)=false:=by subst c1;rfl
   rw[e,main (fun h=>c2 h.2) zq4];simp
 ·rw[if_neg c1]
  by_cases c2:b = -1
  ·rw[if_pos c2]
   by_cases c3:a = -9223372036854775808
   ·rw[show (a == -9223372036854775808)=true from beq_iff_eq.2 c3,keyT,c2,c3]
    rfl
   ·rw[beq_eq_false_iff_ne.2 c3]
    exact main (fun h=>c1 h.1) (fun h=>c3 h.2)
  ·rw[if_neg c2]
   exact main (fun h=>c1 h.1) (fun h=>c2 h.1)
theorem quo_eq (k:Nat) (a b:Int) (ha:R64 a) (hb:R64 b):num_Quo.f (k+1) a b=some (quoS a b):=by
 have ha':=ha;have hb':=hb
 unfold R64 at ha' hb';unfold num_Quo.f quoS
 by_cases b0:b=0
 ·rw[if_pos b0,if_pos b0]
 rw[if_neg b0,if_neg b0,size_eq a ha,size_eq b hb];simp only[Option.bind_some];rw[if_neg zq4];have e:IntKind.u64.wrap (Int.tdiv (a.natAbs:Int) (b.natAbs:Int))=((a.natAbs / b.natAbs:Nat):Int):=by
  have:Int.tdiv (a.natAbs:Int) (b.natAbs:Int)=((a.natAbs / b.natAbs:Nat):Int):=rfl;rw[this,u64w];have:a.natAbs / b.natAbs<=a.natAbs:=Nat.div_le_self _ _;generalize a.natAbs / b.natAbs=q at *;omega
 rw[e];have hle:a.natAbs / b.natAbs<=a.natAbs:=Nat.div_le_self _ _;rw[signed_eq k _ _ (by generalize a.natAbs / b.natAbs=q at *;omega) (by generalize a.natAbs / b.natAbs=q at *;omega)];simp only[Option.bind_some];have hs:a.tdiv b=if (decide (a<0) != decide (b<0))=true then -((a.natAbs / b.natAbs:Nat):Int) else ((a.natAbs / b.natAbs:Nat):Int):=by
  rcases Int.natAbs_eq a with h | h <;> rcases Int.natAbs_eq b with h' | h'
  ·have h1:¬ a<0:=by omega
   have h2:¬ b<0:=by omega
   simp only[h1,h2,decide_false,bne_self_eq_false,Bool.false_eq_true,if_false]
   conv=>lhs;rw[h,h']
   rfl
  ·by_cases hb0:b.natAbs=0
   ·omega
   have h2:b<0:=by omega
   have h1:¬ a<0:=by omega
   simp only[h1,h2,decide_false,decide_true]
   conv=>lhs;rw[h,h',Int.tdiv_neg]
   rfl
  ·have h2:¬ b<0:=by omega
   by_cases ha0:a.natAbs=0
   ·have:a=0:=by omega
    subst this;simp
   have h1:a<0:=by omega
   simp only[h1,h2,decide_false,decide_true]
   conv=>lhs;rw[h,h',Int.neg_tdiv]
   rfl
  ·by_cases ha0:a.natAbs=0
   ·have:a=0:=by omega
    subst this;simp
   have h1:a<0:=by omega
   have h2:b<0:=by omega
   simp only[h1,h2,decide_true,bne_self_eq_false,Bool.false_eq_true,if_false]
   conv=>lhs;rw[h,h',Int.neg_tdiv_neg]
   rfl
 rw[hs]
theorem refQuo_eq (a b:Int) (ha:R64 a) (hb:R64 b):r01_Quo.f a b=some (quoS a b):=by
 unfold r01_Quo.f quoS
 by_cases b0:b=0
 ·rw[if_pos b0,if_pos b0]
 rw[if_neg b0,if_neg b0];have hd:(a.tdiv b).natAbs<=a.natAbs:=by rw[nat_tdiv];exact Nat.div_le_self _ _
 by_cases c:a = -9223372036854775808/\b = -1
 ·rw[if_pos c.1,if_pos c.2,c.1,c.2];rfl
 ·have hr:R64 (a.tdiv b):=by
   unfold R64 at *
   by_cases ha1:a = -9223372036854775808
   ·by_cases hb1:b=1
    ·subst hb1;simp only[Int.tdiv_one];omega
    ·have:2<=b.natAbs:=by omega
     have h3:a.natAbs / b.natAbs<=a.natAbs / 2:=Nat.div_le_div_left this zq4;rw[<- nat_tdiv] at h3;omega
   ·omega
  rw[okI_in hr];have hw:wrap64 (a.tdiv b)=a.tdiv b:=by unfold R64 at hr;unfold wrap64;omega
  rw[hw]
  by_cases h1:a = -9223372036854775808
  ·rw[if_pos h1]
   by_cases h2:b = -1
   ·exact absurd ⟨h1,h2⟩ c
   ·rw[if_neg h2]
  ·rw[if_neg h1]
theorem rem_eq (k:Nat) (a b:Int) (ha:R64 a) (hb:R64 b):num_Rem.f (k+1) a b=some (remS a b):=by
 have ha':=ha;have hb':=hb
 unfold R64 at ha' hb';unfold num_Rem.f remS
 by_cases b0:b=0
 ·rw[if_pos b0,if_pos b0]
 rw[if_neg b0,if_neg b0,size_eq a ha,size_eq b hb];simp only[Option.bind_some];rw[if_neg zq4];have e:Int.tmod (a.natAbs:Int) (b.natAbs:Int)=((a.natAbs % b.natAbs:Nat):Int):=rfl;rw[e];have hlt:a.natAbs % b.natAbs<b.natAbs:=Nat.mod_lt _ zq4;have hle:a.natAbs % b.natAbs<=a.natAbs:=Nat.mod_le _ _;rw[signed_eq k _ _ zq4 zq4, <- tmod_abs];simp only[Option.bind_some];rw[okI_in];rw[tmod_abs];unfold R64
 split <;> omega
theorem refRem_eq (a b:Int):r01_Rem.f a b=some (remS a b):=by
 unfold r01_Rem.f remS
 by_cases b0:b=0
 ·rw[if_pos b0,if_pos b0]
 rw[if_neg b0,if_neg b0]
 by_cases c:b = -1
 ·rw[if_pos c,c]
  have:a.tmod (-1)=0:=by rw[show (-1:Int) = -(1) from rfl,Int.tmod_neg,Int.tmod_one]
  rw[this]
 ·rw[if_neg c]
theorem U.all {α:Type} {f:Nat->Option α} {r:α} (h:∀ k,f k=Option.some r):U f r:=⟨0,fun k _=>h k⟩
def VOk:Th->Prop
 | .num n=>R64 n
 | .txt s=>s.size<=64
def numE (r:Int × Int):Except Int Th:=if r.2=0 then .ok (.num r.1) else .error r.2
def evL (row:List Vl) (o:O):Except Int Th:=if o.f0=1 then .ok (.num o.f1) else if o.f0=2 then .ok (.txt o.f2) else if o.f1<(row.length:Int) then .ok (getTh (rd_T65 row o.f1)) else .error 3
def evU (c:Int) (x:Th):Except Int Th :=
 if c=4 then (match x with
  | .num a=>numE (okI (0 - a))
  | .txt _=>.error 12)
 else if c=5 then (match x with
  | .num a=>.ok (.num (tv (a == 0)))
  | .txt _=>.error 12)
 else (match x with
  | .txt a=>.ok (.num a.size)
  | .num _=>.error 12)
def arith (c a b:Int):Except Int Th :=
 if c=7 then numE (okI (a+b)) else if c=8 then numE (okI (a - b)) else if c=9 then numE (okI (a*b)) else if c=10 then numE (quoS a b) else if c=11 then numE (remS a b)
 else if c=19 then .ok (.num (if a ≠ 0/\b ≠ 0 then 1 else 0)) else .ok (.num (if a ≠ 0\/b ≠ 0 then 1 else 0))
def evB (c:Int) (x y:Th):Except Int Th :=
 if c=12 then (match x,y with
  | .txt s,.txt t=>if s.size+t.size<=64 then .ok (.txt (s ++ t)) else .error 6
  | _,_=>.error 12)
 else if 13<=c/\c<=18 then (compareS c x y).map .num
 else match x,y with
  | .num n,.num m=>arith c n m
  | _,_=>.error 12
def T.ev (row:List Vl):T->Except Int Th
 | .l o=>evL row o
 | .u o t=>match t.ev row with
  | .ok x=>evU o.f0 x
  | .error e=>.error e
 | .b o t s=>match t.ev row with
  | .ok x=>(match s.ev row with
   | .ok y=>evB o.f0 x y
   | .error e=>.error e)
  | .error e=>.error e
def Good:Except Int Th->Prop
 | .ok v=>VOk v
 | .error e=>e ≠ 0
theorem good_okI (z:Int):Good (numE (okI z)):=by
 unfold numE okI
 split
 ·rename_i h
  rw[if_pos rfl];exact h
 ·simp[Good]
theorem r64_tv (b:Bool):R64 (tv b):=by unfold R64 tv;cases b <;> simp
theorem good_arith (c a b:Int) (ha:R64 a) (hb:R64 b):Good (arith c a b):=by
 unfold arith
 split
 ·exact good_okI _
 split
 ·exact good_okI _
 split
 ·exact good_okI _
 split
 ·unfold quoS
  split
  ·simp[numE,Good]
  ·exact good_okI _
 split
 ·unfold remS
  split
  ·simp[numE,Good]
  ·rename_i h
   have:=tmod_lt a b h;unfold R64 at ha hb;simp only[numE,if_pos]
   show R64 (a.tmod b)
   unfold R64;omega
 split
 ·show R64 _
  unfold R64;split <;> omega
 ·show R64 _
  unfold R64;split <;> omega
theorem r64_cmpS (c r:Int):R64 (cmpS c r):=by
 unfold cmpS
 repeat' split
 all_goals exact r64_tv _
theorem good_evU (c:Int) (x:Th) (hx:VOk x):Good (evU c x):=by
 unfold evU
 split
 ·cases x
  ·exact good_okI _
  ·simp[Good]
 split
 ·cases x
  ·exact r64_tv _
  ·simp[Good]
 ·cases x
  ·simp[Good]
  ·simp only[VOk] at hx
   show R64 _
   unfold R64;omega
theorem good_evB (c:Int) (x y:Th) (hx:VOk x) (hy:VOk y):Good (evB c x y):=by
 unfold evB
 split
 ·cases x <;> cases y <;> first | (simp[Good];done) | skip
  rename_i s t
  dsimp only
  split
  ·show (s ++ t).size<=64
   rw[ByteArray.size_append];assumption
  ·simp[Good]
 split
 ·unfold compareS
  split
  ·exact r64_cmpS _ _
  ·simp[Except.map,Good]
 ·cases x <;> cases y <;> first | (simp[Good];done) | skip
  exact good_arith _ _ _ hx hy
structure ROk (row:List Vl):Prop where
 may:rowMay row=true
 r64:∀ v ∈ row,R64 v.f1
theorem rowMay_at {row:List Vl} (h:rowMay row=true):row.length<=8 /\ ∀ v ∈ row,(thOf v.f0 v.f1 v.f2).isSome=true:=by
 unfold rowMay at h;simp only[Bool.and_eq_true,decide_eq_true_eq,List.all_eq_true] at h;exact h
theorem rd_mem {row:List Vl} {i:Int} (h0:0<=i) (h1:i<(row.length:Int)):rd_T65 row i ∈ row:=by
 unfold rd_T65;have:i.toNat<row.length:=by omega
 rw[List.getD_eq_getElem?_getD,List.getElem?_eq_getElem this];exact List.getElem_mem this
theorem empty_eq {t:ByteArray} (h:t.toList=[]):t=⟨#[]⟩:=(toList_nil_iff_emptyBytes t).1 h
theorem thOf_cases {k n:Int} {t:ByteArray} (h:(thOf k n t).isSome=true):(k=1/\t=⟨#[]⟩/\thOf k n t=some (.num n))\/(k=2/\n=0/\t.size<=64/\thOf k n t=some (.txt t)):=by
 unfold thOf at h ⊢
 split at h
 ·rename_i h1
  rw[if_pos h1];exact .inl ⟨h1.1,empty_eq h1.2,rfl⟩
 ·rename_i h1
  rw[if_neg h1]
  split at h
  ·rename_i h2
   rw[if_pos h2];exact .inr ⟨h2.1,h2.2.1,h2.2.2,rfl⟩
  ·simp at h
theorem getTh_ok {v:Vl} (h:(thOf v.f0 v.f1 v.f2).isSome=true) (hr:R64 v.f1):VOk (getTh v)/\thVal3 (getTh v)=(v.f0,v.f1,v.f2):=by
 rcases thOf_cases h with ⟨h0,h1,_⟩ | ⟨h0,h1,h2,_⟩
 ·unfold getTh
  rw[if_pos h0];exact⟨hr,by simp[thVal3,h0,h1]⟩
 ·unfold getTh
  rw[if_neg zq4];exact⟨h2,by simp[thVal3,h0,h1]⟩
theorem takes_0 {c:Int} (h:takes c=0):c=1\/c=2\/c=3:=by
 unfold takes at h
 repeat' split at h
 all_goals first | omega | simp at h
theorem takes_1 {c:Int} (h:takes c=1):c=4\/c=5\/c=6:=by
 unfold takes at h
 repeat' split at h
 all_goals first | omega | simp at h
theorem takes_2 {c:Int} (h:takes c=2):7<=c/\c<=20:=by
 unfold takes at h
 repeat' split at h
 all_goals first | omega | simp at h
theorem okW_get {o:O} (h:okW o=true) (h3:o.f0=3):0<=o.f1/\o.f1<8:=by
 unfold okW at h;rw[if_neg zq4,if_neg zq4,if_pos h3] at h;simp at h;exact h.1
theorem okW_str {o:O} (h:okW o=true) (h3:o.f0=2):o.f2.size<=64:=by
 unfold okW at h;rw[if_neg zq4,if_pos h3] at h;simp at h;exact h.2
theorem good_evL (row:List Vl) (hr:ROk row) (o:O) (hw:okW o=true) (ht:takes o.f0=0) (ho:R64 o.f1):Good (evL row o):=by
 unfold evL
 rcases takes_0 ht with h | h | h
 ·rw[if_pos h];exact ho
 ·rw[if_neg zq4,if_pos h];exact okW_str hw h
 ·rw[if_neg zq4,if_neg zq4]
  have:=okW_get hw h
  split
  ·have hm:=rd_mem this.1 (by assumption)
   exact (getTh_ok ((rowMay_at hr.may).2 _ hm) (hr.r64 _ hm)).1
  ·simp[Good]
theorem good_ev (row:List Vl) (hr:ROk row):∀ t:T,t.ok->(∀ o ∈ t.fl,R64 o.f1)->Good (t.ev row)
 | .l o,h,ho=>good_evL row hr o h.1 h.2 (ho o (by simp[T.fl]))
 | .u o t,h,ho=>by
  have:=good_ev row hr t h.2.2 (fun o' h'=>ho o' (by simp[T.fl,h']));unfold T.ev;cases e:t.ev row with
  | ok x=>rw[e] at this;exact good_evU _ _ this
  | error c=>rw[e] at this;exact this
 | .b o t s,h,ho=>by
  have h1:=good_ev row hr t h.2.2.1 (fun o' h'=>ho o' (by simp[T.fl,h']));have h2:=good_ev row hr s h.2.2.2 (fun o' h'=>ho o' (by simp[T.fl,h']));unfold T.ev;cases e:t.ev row with
  | ok x =>
   rw[e] at h1;cases e':s.ev row with
   | ok y=>rw[e'] at h2;exact good_evB _ _ _ h1 h2
   | error c=>rw[e'] at h2;exact h2
  | error c=>rw[e] at h1;exact h1
theorem sureS_num (r:Int × Int):(sureS r).map Th.num=numE r:=by
 unfold sureS numE
 split <;> rfl
theorem two_E (c a b:Int) (ha:R64 a) (hb:R64 b) (hc:7<=c/\c<=20) (h12:c ≠ 12) (h13:¬ (13<=c/\c<=18)):U (fun k=>(eval_two.g k c a b).map fun r=>r.map Th.num) (arith c a b):=by
 unfold eval_two.g arith
 by_cases h7:c=7
 ·subst h7
  refine U.all fun k=>?_
  simp only[if_pos,add_eq a b ha hb,Option.map_some,sureS_num]
 by_cases h8:c=8
 ·subst h8
  refine U.all fun k=>?_
  simp[sub_eq a b ha hb,sureS_num]
 by_cases h9:c=9
 ·subst h9
  refine U.succ (U.all fun k=>?_);simp[mul_eq k a b ha hb,sureS_num]
 by_cases h10:c=10
 ·subst h10
  refine U.succ (U.all fun k=>?_);simp[quo_eq k a b ha hb,sureS_num]
 by_cases h11:c=11
 ·subst h11
  refine U.succ (U.all fun k=>?_);simp[rem_eq k a b ha hb,sureS_num]
 refine U.all fun k=>?_
 rw[if_neg h7,if_neg h8,if_neg h9,if_neg h10,if_neg h11,if_neg h7,if_neg h8,if_neg h9,if_neg h10,if_neg h11]
 by_cases h19:c=19
 ·rw[if_pos h19,if_pos h19];rfl
 ·rw[if_neg h19,if_neg h19];rfl
theorem pair_E (c:Int) (x y:Th) (hx:VOk x) (hy:VOk y) (hc:7<=c/\c<=20):U (fun k=>pairS k c x y) (evB c x y):=by
 unfold pairS evB
 by_cases h12:c=12
 ·rw[if_pos h12]
  refine U.pos h12 (U.const ?_);cases x <;> cases y <;> first | rfl | skip
  rename_i s t
  simp only[VOk] at hx hy;dsimp only
  by_cases h:s.size+t.size<=64
  ·rw[if_pos h,if_pos h]
  ·rw[if_neg h,if_neg h,if_pos zq4]
 rw[if_neg h12];refine U.neg h12 ?_
 by_cases h13:13<=c/\c<=18
 ·rw[if_pos h13]
  exact U.pos h13 (U.some _)
 rw[if_neg h13];refine U.neg h13 ?_;cases x <;> cases y <;> first | exact U.some _ | skip
 exact two_E c _ _ hx hy hc h12 h13
def After (row:List Vl) (os:List O) (M:List Th) (r:Except Int (List Th)):Except Int Th->Prop
 | .error why=>r = .error why
 | .ok x=>U (fun k=>wordsS k row os (x :: M)) r
theorem words_step (row:List Vl) (o:O) (os:List O) (L:List Th) (v:Except Int Th) (M:List Th) (r:Except Int (List Th)) (h:U (fun k=>wordS k o row L) (v.map (· :: M)))
  (hr:After row os M r v):U (fun k=>wordsS k row (o :: os) L) r:=by
 refine U.bind h ?_;cases v with
 | error e=>rw[show r = .error e from hr];exact U.some _
 | ok x=>exact hr
theorem wordL (row:List Vl) (o:O) (L:List Th) (hw:okW o=true) (ht:takes o.f0=0) (hl:L.length<64):U (fun k=>wordS k o row L) ((evL row o).map (· :: L)):=by
 rcases takes_0 ht with h | h | h
 ·have e:evL row o = .ok (.num o.f1):=by unfold evL;rw[if_pos h]
  rw[e];exact U.pos h (U.pos hl (U.some _))
 ·have e:evL row o = .ok (.txt o.f2):=by unfold evL;rw[if_neg zq4,if_pos h]
  rw[e];exact U.neg zq4 (U.pos h (U.pos hl (U.some _)))
 ·refine U.neg zq4 (U.neg zq4 (U.pos h ?_))
  by_cases hn:o.f1<(row.length:Int)
  ·have e:evL row o = .ok (getTh (rd_T65 row o.f1)):=by unfold evL;rw[if_neg zq4,if_neg zq4,if_pos hn]
   rw[e];exact U.pos hn (U.pos ⟨(okW_get hw h).1,hl⟩ (U.some _))
  ·have e:evL row o = .error 3:=by unfold evL;rw[if_neg zq4,if_neg zq4,if_neg hn]
   rw[e];exact U.neg hn (U.some _)
theorem numE_map (r:Int × Int) (L:List Th):(sureS r).map (fun m=>Th.num m :: L)=(numE r).map (· :: L):=by
 unfold sureS numE
 split <;> rfl
theorem wordU (row:List Vl) (o:O) (x:Th) (L:List Th) (ht:takes o.f0=1) (hx:VOk x):U (fun k=>wordS k o row (x :: L)) ((evU o.f0 x).map (· :: L)):=by
 rcases takes_1 ht with h | h | h
 ·refine U.neg zq4 (U.neg zq4 (U.neg zq4 (U.pos h ?_)))
  rw[h];cases x with
  | num a =>
   refine U.succ (U.all fun k=>?_);simp only[neg_eq k a hx,Option.map_some];rw[numE_map]
   rfl
  | txt a=>exact U.some _
 ·refine U.neg zq4 (U.neg zq4 (U.neg zq4 (U.neg zq4 (U.pos h ?_))))
  rw[h];cases x <;> exact U.some _
 ·refine U.neg zq4 (U.neg zq4 (U.neg zq4 (U.neg zq4 (U.neg zq4 (U.pos h ?_)))))
  rw[h];cases x <;> exact U.some _
theorem wordB (row:List Vl) (o:O) (x y:Th) (L:List Th) (ht:takes o.f0=2) (hx:VOk x) (hy:VOk y):U (fun k=>wordS k o row (y :: x :: L)) ((evB o.f0 x y).map (· :: L)):=by
 unfold wordS;have h:=takes_2 ht;refine U.neg zq4 (U.neg zq4 (U.neg zq4 (U.neg zq4 (U.neg zq4 (U.neg zq4 ?_)))));exact U.map (pair_E o.f0 x y hx hy h)
theorem words_T (row:List Vl) (hr:ROk row):∀ t:T,t.ok->(∀ o ∈ t.fl,R64 o.f1) -> ∀ (ys:List O) (L:List Th) (r:Except Int (List Th)),L.length+t.fl.length<=64 ->
  After row ys L r (t.ev row)->U (fun k=>wordsS k row (t.fl ++ ys) L) r
 | .l o,h,ho,ys,L,r,hl,hv=>by
  simp[T.fl] at hl;exact words_step row o ys L _ L r (wordL row o L h.1 h.2 zq4) hv
 | .u o t,h,ho,ys,L,r,hl,hv=>by
  have hg:=good_ev row hr t h.2.2 (fun o' h'=>ho o' (by simp[T.fl,h']));simp[T.fl] at hl
  show U (fun k=>wordsS k row ((t.fl ++ [o]) ++ ys) L) r
  rw[List.append_assoc];refine words_T row hr t h.2.2 (fun o' h'=>ho o' (by simp[T.fl,h'])) _ L r zq4 ?_;unfold T.ev at hv;cases e:t.ev row with
  | error c=>rw[e] at hv;exact hv
  | ok x =>
   rw[e] at hv hg;exact words_step row o ys _ _ L r (wordU row o x L h.2.1 hg) hv
 | .b o t s,h,ho,ys,L,r,hl,hv=>by
  have hg:=good_ev row hr t h.2.2.1 (fun o' h'=>ho o' (by simp[T.fl,h']));have hg2:=good_ev row hr s h.2.2.2 (fun o' h'=>ho o' (by simp[T.fl,h']));have hp:=t.fl_pos;simp[T.fl] at hl
  show U (fun k=>wordsS k row ((t.fl ++ (s.fl ++ [o])) ++ ys) L) r
  rw[List.append_assoc,List.append_assoc];refine words_T row hr t h.2.2.1 (fun o' h'=>ho o' (by simp[T.fl,h'])) _ L r zq4 ?_;unfold T.ev at hv;cases e:t.ev row with
  | error c=>rw[e] at hv;exact hv
  | ok x =>
   rw[e] at hv hg;refine words_T row hr s h.2.2.2 (fun o' h'=>ho o' (by simp[T.fl,h'])) _ (x :: L) r zq33 ?_;cases e':s.ev row with
   | error c=>rw[e'] at hv;exact hv
   | ok y =>
    rw[e'] at hv hg2;exact words_step row o ys _ _ L r (wordB row o x y L h.2.1 hg hg2) hv
theorem refMay (k n:Int) (t:ByteArray):r05_May.f k n t=some (thOf k n t).isSome:=by
 unfold r05_May.f
 by_cases h1:k=1
 ·rw[if_pos h1]
  by_cases ht:t.toList=[]
  ·have e:thOf k n t=some (.num n):=by unfold thOf;rw[if_pos ⟨h1,ht⟩]
   rw[e,ht];rfl
  ·have e:thOf k n t=none:=by unfold thOf;rw[if_neg (by simp[ht]),if_neg zq4]
   rw[e];simp[ht]
 rw[if_neg h1]
 by_cases h2:k=2
 ·rw[if_pos h2]
  by_cases hn:n=0
  ·rw[if_pos hn]
   by_cases hs:t.size<=64
   ·have e:thOf k n t=some (.txt t):=by unfold thOf;rw[if_neg (by simp[h1]),if_pos ⟨h2,hn,hs⟩]
    rw[e];simp;omega
   ·have e:thOf k n t=none:=by unfold thOf;rw[if_neg (by simp[h1]),if_neg (by simp[hs])]
    rw[e];simp;omega
  ·have e:thOf k n t=none:=by unfold thOf;rw[if_neg (by simp[h1]),if_neg (by simp[hn])]
   rw[if_neg hn,e];rfl
 ·have e:thOf k n t=none:=by unfold thOf;rw[if_neg (by simp[h1]),if_neg (by simp[h2])]
  rw[if_neg h2,e];rfl
theorem bt_get (s:ByteArray) (i:Nat) (h:i<s.data.toList.length):bt s (i:Int)=((s.data.toList[i]).toNat:Int):=by
 have hs:i<s.size:=by rw[data_length] at h;exact h
 unfold bt;rw[dif_pos (by simpa using hs)];simp only[Int.toNat_natCast]
 rfl
theorem cmp_loop (c d:Int) (s t:ByteArray) (hs:s.size<=64) (ht:t.size<=64) (n:Int) (m:Int):∀ (q i:Nat),s.size - i=q->i<=s.size->i<=t.size ->
  U (fun k=>r05_Compare.l0 k (i:Int) c n s d m t) (Lib.compareBytes (s.data.toList.drop i) (t.data.toList.drop i)):=by
 intro q;have fin:∀ i:Nat,(i=s.size\/i=t.size)->i<=s.size->i<=t.size -> ∀ f:Nat->Option Int,U (fun k=>if false=true then f k else (if (s.size:Int)=(t.size:Int) then (some 0) else (if (s.size:Int)<(t.size:Int) then (some (-1)) else (some 1)))) (Lib.compareBytes (s.data.toList.drop i) (t.data.toList.drop i)):=by
  intro i h h1 h2 f;refine U.neg zq30 ?_;have l1:=data_length s;have l2:=data_length t
  by_cases e:s.size=t.size
  ·refine U.pos zq4 ?_
   rw[List.drop_eq_nil_of_le zq4,List.drop_eq_nil_of_le zq4];exact U.some _
  refine U.neg zq4 ?_
  by_cases e':s.size<t.size
  ·refine U.pos zq4 ?_
   rw[List.drop_eq_nil_of_le (by omega:s.data.toList.length<=i),List.drop_eq_getElem_cons (by omega:i<t.data.toList.length)];exact U.some _
  ·refine U.neg zq4 ?_
   rw[List.drop_eq_nil_of_le (by omega:t.data.toList.length<=i),List.drop_eq_getElem_cons (by omega:i<s.data.toList.length)];exact U.some _
 induction q with
 | zero =>
  intro i hq h1 h2;refine U.succ ?_;simp only[r05_Compare.l0];refine U.neg zq4 (U.succ ?_);simp only[r05_Compare.j2];exact fin i zq4 h1 h2 _
 | succ q ih =>
  intro i hq h1 h2;refine U.succ ?_;simp only[r05_Compare.l0];refine U.pos zq4 (U.succ ?_);simp only[r05_Compare.j2]
  by_cases hi:i<t.size
  ·refine U.pos (DET zq4) (U.pos zq4 (U.pos zq4 (U.pos zq4 ?_)))
   have l1:i<s.data.toList.length:=by rw[data_length];omega
   have l2:i<t.data.toList.length:=by rw[data_length];omega
   rw[List.drop_eq_getElem_cons l1,List.drop_eq_getElem_cons l2,Lib.compareBytes,bt_get s i l1,bt_get t i l2];generalize s.data.toList[i]=a;generalize t.data.toList[i]=b
   by_cases e:a=b
   ·subst e
    refine U.pos rfl ?_;rw[if_neg (UInt8.lt_irrefl a),if_neg (UInt8.lt_irrefl a)];have:=ih (i+1) zq4 zq4 zq4;refine this.congr fun k=>?_
    congr 1
    rw[w64 zq4 zq4];simp
   ·have e':¬ ((a.toNat:Int)=(b.toNat:Int)):=fun h=>e (UInt8.toNat_inj.mp zq4)
    refine U.neg e' ?_
    by_cases lt:a<b
    ·rw[if_pos lt]
     exact U.pos (by have:=UInt8.lt_iff_toNat_lt.mp lt;omega) (U.some _)
    ·rw[if_neg lt]
     have h3:¬ a.toNat<b.toNat:=fun h=>lt (UInt8.lt_iff_toNat_lt.mpr h)
     have gt:b<a:=UInt8.lt_iff_toNat_lt.mpr zq4;rw[if_pos gt];exact U.neg zq4 (U.some _)
  ·rw[DEF (by omega:¬ (i:Int)<(t.size:Int))]
   exact fin i zq4 h1 h2 _
theorem cmp_R (a0 a1:Int) (a2:ByteArray) (b0 b1:Int) (b2:ByteArray):U (fun k=>r05_Compare.f k a0 a1 a2 b0 b1 b2) (thCmp (thOf a0 a1 a2) (thOf b0 b1 b2)):=by
 unfold r05_Compare.f;rw[refMay,refMay];refine U.bind (U.some _) ?_;cases ha:(thOf a0 a1 a2).isSome with
 | false =>
  refine U.neg zq30 (U.succ ?_);simp only[r05_Compare.j0];refine U.pos trivial (U.const ?_);have:thOf a0 a1 a2=none:=by cases h:thOf a0 a1 a2 <;> simp[h] at ha ⊢
  rw[this];rfl
 | true =>
  refine U.pos rfl (U.bind (U.some _) (U.succ ?_));simp only[r05_Compare.j0];cases hb:(thOf b0 b1 b2).isSome with
  | false =>
   refine U.pos rfl (U.const ?_);have:thOf b0 b1 b2=none:=by cases h:thOf b0 b1 b2 <;> simp[h] at hb ⊢
   rw[this];cases thOf a0 a1 a2 with
   | none=>rfl
   | some x=>cases x <;> rfl
  | true =>
   refine U.neg zq30 ?_
   rcases thOf_cases ha with ⟨x0,x1,xe⟩ | ⟨x0,x1,x2,xe⟩ <;> rcases thOf_cases hb with ⟨y0,y1,ye⟩ | ⟨y0,y1,y2,ye⟩
   ·rw[xe,ye]
    refine U.pos zq4 ?_;subst x1 y1
    by_cases e:a1=b1
    ·refine U.pos e ?_
     have:=cmp_loop a0 b0 ⟨#[]⟩ ⟨#[]⟩ zq34 zq34 a1 b1 0 0 rfl zq4 zq4;refine this.congr_r ?_;simp only[thCmp];rw[if_neg zq4,if_neg zq4]
     rfl
    ·refine U.neg e ?_
     by_cases l:a1<b1
     ·refine U.pos l (U.const ?_);simp only[thCmp];rw[if_pos l]
     ·refine U.neg l (U.const ?_);simp only[thCmp];rw[if_neg l,if_pos zq4]
   ·rw[xe,ye]
    refine U.neg zq4 (U.pos x0 (U.some _))
   ·rw[xe,ye]
    refine U.neg zq4 (U.neg zq4 (U.some _))
   ·rw[xe,ye]
    refine U.pos zq4 (U.pos zq4 ?_);exact cmp_loop a0 b0 a2 b2 x2 y2 a1 b1 _ 0 rfl zq4 zq4
theorem row_R (row:List Vl):∀ (q:Nat) (i:Nat),row.length - i=q->i<=9->U (fun k=>r06_May.l0 k row (i:Int)) (decide (row.length<=8) && (row.drop i).all fun v=>(thOf v.f0 v.f1 v.f2).isSome):=by
 intro q
 induction q with
 | zero =>
  intro i hq hi;refine U.succ ?_;simp only[r06_May.l0];refine U.neg zq4 (U.succ ?_);simp only[r06_May.j1];refine U.neg zq30 (U.const ?_);rw[List.drop_eq_nil_of_le zq4];simp;omega
 | succ q ih =>
  intro i hq hi;refine U.succ ?_;simp only[r06_May.l0];refine U.pos zq4 (U.succ ?_);simp only[r06_May.j1]
  by_cases h9:i<9
  ·refine U.pos (DET zq4) (U.pos zq4 (U.pos zq4 ?_))
   have hlt:i<row.length:=by omega
   have hrd:rd_T65 row (i:Int)=row[i]:=by
    unfold rd_T65;rw[List.getD_eq_getElem?_getD,Int.toNat_natCast,List.getElem?_eq_getElem hlt];rfl
   rw[hrd,refMay,List.drop_eq_getElem_cons hlt,List.all_cons];refine U.bind (U.some _) ?_;cases hv:(thOf row[i].f0 row[i].f1 row[i].f2).isSome with
   | false=>refine U.neg zq30 (U.const ?_);simp
   | true =>
    refine U.pos rfl ?_;have:=ih (i+1) zq4 zq4;rw[Bool.true_and];refine this.congr fun k=>?_
    congr 1
    rw[w64 zq4 zq4];simp
  ·refine U.neg zq33 (U.const ?_)
   rw[DEF zq4,DEF zq4]
   rfl
theorem mayR (row:List Vl):U (fun k=>r06_May.f k row) (rowMay row):=by
 have:=row_R row _ 0 rfl zq4;exact this
def outV:Except Int Th->Int × Int × ByteArray × Int
 | .ok v=>((thVal3 v).1,(thVal3 v).2.1,(thVal3 v).2.2,0)
 | .error e=>(0,0,⟨#[]⟩,e)
theorem outV_num (r:Int × Int):numR r=outV (numE r):=by
 unfold numR numE
 split <;> rfl
theorem two_R (c:Int) (x y:Th) (hx:VOk x) (hy:VOk y) (hc:7<=c/\c<=20):U (fun k=>r18_two.f k c (thVal3 x).1 (thVal3 x).2.1 (thVal3 x).2.2 (thVal3 y).1 (thVal3 y).2.1 (thVal3 y).2.2) (outV (evB c x y)):=by
 unfold r18_two.f
 by_cases hk':¬ (thVal3 x).1=(thVal3 y).1
 ·have hk:=hk'
  refine U.pos hk (U.const ?_);have:evB c x y = .error 12:=by
   unfold evB compareS;cases x <;> cases y <;> simp[thVal3] at hk ⊢ <;> repeat' split
   all_goals first | rfl | (intros;rfl)
  rw[this];rfl
 have hk:(thVal3 x).1=(thVal3 y).1:=Decidable.not_not.mp hk';refine U.neg hk' (U.bind (cmp_R _ _ _ _ _ _) ?_)
 by_cases h13:13<=c/\c<=18
 ·refine U.pos h13 (U.const ?_)
  have:evB c x y = .ok (.num (cmpS c (thCmp (thO x) (thO y)))):=by
   unfold evB compareS;rw[if_neg zq4,if_pos h13,if_pos hk];rfl
  rw[this];rfl
 refine U.neg h13 ?_;cases x with
 | txt s =>
  cases y with
  | num b=>simp[thVal3] at hk
  | txt t =>
   by_cases h12:c=12
   ·refine U.neg (by simp[thVal3,h12]) (U.pos h12 ?_)
    simp only[VOk] at hx hy;have:evB c (.txt s) (.txt t)=if s.size+t.size<=64 then .ok (.txt (s ++ t)) else .error 6:=by unfold evB;rw[if_pos h12]
    rw[this]
    show U (fun k=>if s.size+t.size<=64 then some (2,0,s ++ t,0) else if s.size+t.size<=4294967296 then some (0,0,(⟨#[]⟩:ByteArray),6) else none) _
    by_cases hl:s.size+t.size<=64
    ·simp only[if_pos hl];exact U.some _
    ·simp only[if_neg hl];exact U.pos zq4 (U.some _)
   ·refine U.pos (by simp[thVal3,h12]) (U.const ?_)
    have:evB c (.txt s) (.txt t) = .error 12:=by unfold evB;rw[if_neg h12,if_neg h13]
    rw[this];rfl
 | num a =>
  cases y with
  | txt t=>simp[thVal3] at hk
  | num b =>
   by_cases h12:c=12
   ·refine U.pos (by simp[thVal3,h12]) (U.const ?_)
    have:evB c (.num a) (.num b) = .error 12:=by unfold evB;rw[if_pos h12]
    rw[this];rfl
   ·refine U.neg (by simp[thVal3,h12]) (U.neg h12 ?_)
    have e:evB c (.num a) (.num b)=arith c a b:=by unfold evB;rw[if_neg h12,if_neg h13]
    rw[e];have ha:R64 a:=hx;have hb:R64 b:=hy
    show U (fun k=>if c=19 then some (1,tv ((a != 0) && (b != 0)),(⟨#[]⟩:ByteArray),0) else if c=20 then some (1,tv ((a != 0) || (b != 0)),(⟨#[]⟩:ByteArray),0) else
     if c=7 then (r01_Add.f a b).map numR else if c=8 then (r01_Sub.f a b).map numR else if c=9 then (r01_Mul.f k a b).map numR else if c=10 then (r01_Quo.f a b).map numR else (r01_Rem.f a b).map numR) _
    by_cases h19:c=19
    ·refine U.pos h19 (U.const ?_)
     subst h19;have:arith 19 a b = .ok (.num (if a ≠ 0/\b ≠ 0 then 1 else 0)):=rfl;rw[this]
     by_cases ea:a=0 <;> by_cases eb:b=0 <;> simp[ea,eb,outV,thVal3,tv]
    refine U.neg h19 ?_
    by_cases h20:c=20
    ·refine U.pos h20 (U.const ?_)
     subst h20;have:arith 20 a b = .ok (.num (if a ≠ 0\/b ≠ 0 then 1 else 0)):=rfl;rw[this]
     by_cases ea:a=0 <;> by_cases eb:b=0 <;> simp[ea,eb,outV,thVal3,tv]
    refine U.neg h20 ?_
    by_cases h7:c=7
    ·refine U.pos h7 (U.const ?_)
     rw[refAdd_eq a b ha hb,Option.map_some,outV_num];subst h7;rfl
    refine U.neg h7 ?_
    by_cases h8:c=8
    ·refine U.pos h8 (U.const ?_)
     rw[refSub_eq a b ha hb,Option.map_some,outV_num];subst h8;rfl
    refine U.neg h8 ?_
    by_cases h9:c=9
    ·refine U.pos h9 (U.succ (U.succ (U.all fun k=>?_)))
     rw[refMul_eq k a b ha hb,Option.map_some,outV_num];subst h9;rfl
    refine U.neg h9 ?_
    by_cases h10:c=10
    ·refine U.pos h10 (U.const ?_)
     rw[refQuo_eq a b ha hb,Option.map_some,outV_num];subst h10;rfl
    refine U.neg h10 (U.const ?_);rw[refRem_eq a b,Option.map_some,outV_num];have:c=11:=by omega
    subst this;rfl
theorem T.ev_u (row:List Vl) (o:O) (t:T):(T.u o t).ev row=match t.ev row with
  | .ok x=>evU o.f0 x
  | .error e=>.error e:=rfl
theorem T.ev_b (row:List Vl) (o:O) (t s:T):(T.b o t s).ev row=match t.ev row with
  | .ok x=>(match s.ev row with
   | .ok y=>evB o.f0 x y
   | .error e=>.error e)
  | .error e=>.error e:=rfl
structure XOk (x:List O) (row:List Vl):Prop where
 x:∀ o ∈ x,R64 o.f1
 row:∀ v ∈ row,R64 v.f1
def evalV (x:List O) (row:List Vl):Int × Int × ByteArray × Int :=
 if formV x ≠ 0 then (0,0,⟨#[]⟩,formV x) else if rowMay row=false then (0,0,⟨#[]⟩,2) else match parse x [] with
  | some [t]=>outV (t.ev row)
  | _=>(0,0,⟨#[]⟩,0)
theorem evalV_T (t:T) (ht:t.ok) (row:List Vl) (hf:formV t.fl=0) (hm:rowMay row=true):evalV t.fl row=outV (t.ev row):=by
 unfold evalV;rw[if_neg (by simp[hf]),if_neg (by simp[hm])];have:=parse_fl t ht [] [];rw[List.append_nil] at this;rw[this];rfl
theorem eval_E (x:List O) (row:List Vl) (h:XOk x row):U (fun k=>eval_Eval.f k x row) (evalV x row):=by
 refine U.bind (form_E x) ?_
 by_cases h0:¬ formV x=0
 ·have e:evalV x row=(0,0,⟨#[]⟩,formV x):=by unfold evalV;rw[if_pos h0]
  rw[e];exact U.pos h0 (U.some _)
 replace h0:formV x=0:=Decidable.not_not.mp h0;refine U.neg (by simpa using h0) (U.bind (U.some _) ?_)
 by_cases hm:rowMay row=false
 ·have e:evalV x row=(0,0,⟨#[]⟩,2):=by unfold evalV;rw[if_neg (by simpa using h0),if_pos hm]
  rw[e];exact U.pos hm (U.some _)
 refine U.neg hm ?_;have hm':rowMay row=true:=by simpa using hm
 obtain⟨t,ht,rfl,hl⟩:=formV_0 h0;rw[evalV_T t ht row h0 hm'];have hr:ROk row:=⟨hm',h.row⟩
 have hw:U (fun k=>wordsS k row (t.fl ++ []) []) ((t.ev row).map fun v=>[v]):=by
  refine words_T row hr t ht h.x [] [] _ (by simpa using hl) ?_;cases t.ev row with
  | error e=>rfl
  | ok v=>exact U.some _
 rw[List.append_nil] at hw;refine U.bind hw (U.const ?_);cases t.ev row <;> rfl
def holdsV (x:List O) (row:List Vl):Bool × Int:=if (evalV x row).2.2.2=0 then (if (evalV x row).1=1 then ((evalV x row).2.1 != 0,0) else (false,12)) else (false,(evalV x row).2.2.2)
theorem holds_E (x:List O) (row:List Vl) (h:XOk x row):U (fun k=>eval_Holds.f k x row) (holdsV x row):=by
 refine U.bind (eval_E x row h) ?_;unfold holdsV
 by_cases h0:(evalV x row).2.2.2=0
 ·refine U.pos h0 ?_
  by_cases h1:(evalV x row).1=1
  ·refine U.pos h1 (U.const ?_);rw[if_pos h0,if_pos h1]
  ·refine U.neg h1 (U.const ?_);rw[if_pos h0,if_neg h1]
 ·refine U.neg h0 (U.const ?_);rw[if_neg h0]
end Go.Proofs.YtmkgecapkeojaaaGreat.EvP
end
section
namespace Go.Proofs.YtmkgecapkeojaaaGreat.Eg
open PDa
open RowKit YtmkgecapkeojaaaGreatW.PrintWords Stp Rw Cmp
open Go.Proofs.YtmkgecapkeojaaaGreat.EvP (U)
theorem ref05 (x y:Vl):U (fun k=>r05_Compare.f k x.f0 x.f1 x.f2 y.f0 y.f1 y.f2) (cmpV x y):=EvP.cmp_R _ _ _ _ _ _
theorem diff_drop (a b:List Vl) (i:Nat) (h1:i<a.length) (h2:i<b.length):rC (a.drop i) (b.drop i)=if vC a[i] b[i]=0 then rC (a.drop (i+1)) (b.drop (i+1)) else vC a[i] b[i]:=by
 rw[List.drop_eq_getElem_cons h1,List.drop_eq_getElem_cons h2];rfl
theorem ref06_l0 (a b:List Vl) (ha:rowMay a=true) (hb:rowMay b=true) (hla:a.length<=8) (hlb:b.length<=8):∀ (m i:Nat),a.length - i=m->i<=a.length->i<=b.length ->
  U (fun k=>r06_Compare.l0 k a b (i:Int)) (rC (a.drop i) (b.drop i))
 | m,i,hm,h1,h2=>by
  refine EvP.U.succ ?_;simp only[r06_Compare.l0];have e1:(a.drop i).length=a.length - i:=List.length_drop;have e2:(b.drop i).length=b.length - i:=List.length_drop
  by_cases c1:i<a.length
  ·refine EvP.U.pos (by omega) (EvP.U.succ ?_)
   simp only[r06_Compare.j2]
   by_cases c2:i<b.length
   ·refine EvP.U.pos (DET (by omega)) (EvP.U.pos (by omega) (EvP.U.pos (by omega) (EvP.U.pos (by omega) ?_)))
    have ra:rd_T65 a (i:Int)=a[i]:=by unfold rd_T65;simp[c1]
    have rb:rd_T65 b (i:Int)=b[i]:=by unfold rd_T65;simp[c2]
    rw[ra,rb];have hv:=cmpV_vC (rowMay_all ha _ (List.getElem_mem c1)) (rowMay_all hb _ (List.getElem_mem c2));have hu:=ref05 a[i] b[i];rw[hv] at hu;refine EvP.U.bind hu ?_;rw[diff_drop a b i c1 c2];have hw:wrap64 ((i:Int)+1)=((i+1:Nat):Int):=by unfold wrap64;omega
    rw[hw]
    by_cases e:vC a[i] b[i]=0
    ·rw[if_pos e]
     refine EvP.U.pos e ?_;clear e hv hu
     match m,hm with
     | 0,hm=>omega
     | m+1,hm=>exact ref06_l0 a b ha hb hla hlb m (i+1) (by omega) (by omega) (by omega)
    ·rw[if_neg e]
     exact EvP.U.neg e (EvP.U.some _)
   ·refine EvP.U.neg (by simp;omega) ?_
    have h0:b.drop i=[]:=List.eq_nil_of_length_eq_zero (by omega);obtain⟨y,ys,hy⟩:∃ y ys,a.drop i=y :: ys:=⟨_,_,List.drop_eq_getElem_cons c1⟩
    rw[h0,hy];exact EvP.U.neg (by omega) (EvP.U.pos (by omega) (EvP.U.some _))
  ·refine EvP.U.neg (by omega) (EvP.U.succ ?_)
   simp only[r06_Compare.j2];refine EvP.U.neg (by decide) ?_;have h0:a.drop i=[]:=List.eq_nil_of_length_eq_zero (by omega);rw[h0]
   by_cases c2:i<b.length
   ·obtain⟨y,ys,hy⟩:∃ y ys,b.drop i=y :: ys:=⟨_,_,List.drop_eq_getElem_cons c2⟩
    rw[hy];exact EvP.U.pos (by omega) (EvP.U.some _)
   ·have h1:b.drop i=[]:=List.eq_nil_of_length_eq_zero (by omega)
    rw[h1];exact EvP.U.neg (by omega) (EvP.U.neg (by omega) (EvP.U.some _))
theorem ref06 (a b:List Vl):U (fun k=>r06_Compare.f k a b) (cmpR a b):=by
 unfold r06_Compare.f;refine EvP.U.bind (EvP.mayR a) ?_;cases ha:rowMay a with
 | false =>
  have e:cmpR a b=0:=by unfold cmpR;rw[ha];rfl
  rw[e];refine EvP.U.neg (by decide) (EvP.U.succ ?_);simp only[r06_Compare.j0];exact EvP.U.pos (by first | rfl | trivial) (EvP.U.some _)
 | true =>
  refine EvP.U.pos (by first | rfl | trivial) (EvP.U.bind (EvP.mayR b) (EvP.U.succ ?_));simp only[r06_Compare.j0];cases hb:rowMay b with
  | false =>
   have e:cmpR a b=0:=by unfold cmpR;rw[ha,hb];rfl
   rw[e];exact EvP.U.pos (by first | rfl | trivial) (EvP.U.some _)
  | true =>
   rw[cmpR_rC ha hb];refine EvP.U.neg (by decide) ?_;have hl:∀ z:List Vl,rowMay z=true->z.length<=8:=by
    intro z hz;unfold rowMay at hz;rw[Bool.and_eq_true] at hz;exact ODT hz.1
   have:=ref06_l0 a b ha hb (hl a ha) (hl b hb) _ 0 rfl (Nat.zero_le _) (Nat.zero_le _)
   simpa using this
theorem same06_l0 (a b:List Vl) (hl:a.length=b.length) (h63:a.length<=4398046511104):∀ (m i:Nat),a.length - i=m->i<=a.length->a.take i=b.take i->U (fun k=>r06_Same.l0 k a b (i:Int)) (eqR a b)
 | m,i,hm,hi,ht=>by
  refine EvP.U.succ ?_;simp only[r06_Same.l0]
  by_cases c1:i<a.length
  ·refine EvP.U.pos (by omega) (EvP.U.pos (by omega) (EvP.U.pos (by omega) ?_))
   have c2:i<b.length:=by omega
   have ra:rd_T65 a (i:Int)=a[i]:=by unfold rd_T65;simp[c1]
   have rb:rd_T65 b (i:Int)=b[i]:=by unfold rd_T65;simp[c2]
   rw[ra,rb];have hw:wrap64 ((i:Int)+1)=((i+1:Nat):Int):=by unfold wrap64;omega
   rw[hw]
   by_cases e:a[i]=b[i]
   ·refine EvP.U.neg (by rw[e];simp) ?_
    match m,hm with
    | 0,hm=>omega
    | m+1,hm=>exact same06_l0 a b hl h63 m (i+1) (by omega) (by omega) (take_snoc ht c1 c2 e)
   ·have hne:eqR a b=false:=by
     rw[Bool.eq_false_iff];intro h;have:=(eqR_iff a b).1 h;subst this;exact e rfl
    rw[hne];refine EvP.U.pos ?_ (EvP.U.some _);rw[Bool.or_eq_true,Bool.or_eq_true]
    by_cases x0:a[i].f0=b[i].f0
    ·by_cases x1:a[i].f1=b[i].f1
     ·right;right
      have x2:¬ a[i].f2.toList=b[i].f2.toList:=by
       intro h;refine e ?_;rw[ByteArray.toList_eq,ByteArray.toList_eq] at h;exact tri_inj (by unfold tri;rw[x0,x1,h])
      simp[x2]
     ·right;left;simp[x1]
    ·left;simp[x0]
  ·refine EvP.U.neg (by omega) ?_
   have hab:a=b:=by
    have h1:=ht;rw[List.take_of_length_le (by omega),List.take_of_length_le (by omega)] at h1;exact h1
   have:eqR a b=true:=(eqR_iff a b).2 hab;rw[this];exact EvP.U.some _
theorem same06 (a b:List Vl) (h63:a.length<=4398046511104):U (fun k=>r06_Same.f k a b) (eqR a b):=by
 unfold r06_Same.f
 by_cases hl:a.length=b.length
 ·refine EvP.U.pos (by omega) ?_
  exact same06_l0 a b hl h63 _ 0 rfl (Nat.zero_le _) rfl
 ·have hne:eqR a b=false:=by
   rw[Bool.eq_false_iff];intro h;exact hl (by rw[(eqR_iff a b).1 h])
  rw[hne];exact EvP.U.neg (by omega) (EvP.U.some _)
end Go.Proofs.YtmkgecapkeojaaaGreat.Eg
end
section
namespace Go.Proofs.YtmkgecapkeojaaaGreat.Eg
open PDa
open RowKit Stp Rw
abbrev EdP:=S41
def jmpE (e:EdP):Jp:=⟨e.f1,e.f2⟩
def runAt (r:List Vl) (js:List Jp):List EdP->List (List Vl × List Jp)
 | []=>[(r,js)]
 | e :: es=>if eqR e.f0 r=true then runAt r (js ++ [jmpE e]) es else (r,js) :: runAt e.f0 [jmpE e] es
def runsP:List EdP->List (List Vl × List Jp)
 | []=>[]
 | e :: es=>runAt e.f0 [jmpE e] es
theorem eqR_refl (a:List Vl):eqR a a=true:=(eqR_iff a a).2 rfl
theorem runs_start (l:List EdP) (i:Nat) (h:i<l.length):runsP (l.drop i)=runAt (l[i]).f0 [] (l.drop i):=by
 rw[List.drop_eq_getElem_cons h,runsP,runAt,if_pos (eqR_refl _),List.nil_append]
theorem runAt_step (l:List EdP) (i:Nat) (h:i<l.length) (r:List Vl) (js:List Jp) (e:eqR (l[i]).f0 r=true):runAt r js (l.drop i)=runAt r (js ++ [jmpE l[i]]) (l.drop (i+1)):=by
 rw[List.drop_eq_getElem_cons h,runAt,if_pos e]
theorem runAt_end (l:List EdP) (i:Nat) (hi:i<=l.length) (r:List Vl) (js:List Jp) (e:∀ h:i<l.length,eqR (l[i]).f0 r=false):runAt r js (l.drop i)=(r,js) :: runsP (l.drop i):=by
 rcases Nat.lt_or_ge i l.length with h | h
 ·rw[List.drop_eq_getElem_cons h,runAt,e h,if_neg (by decide),runsP]
 ·rw[List.drop_eq_nil_of_le h];rfl
end Go.Proofs.YtmkgecapkeojaaaGreat.Eg
end
section
namespace Go.Proofs.YtmkgecapkeojaaaGreat.Run
open Go RowKit YtmkgecapkeojaaaGreatW.PrintWords
section
variable {α:Type} {d:Kd α}
theorem own_ltR {e:Nat} {W:World} {B0:Nat} {ok:Nat->Prop} {v:Value} {xs:List α} (h:d.R e W B0 ok v xs) {b:Nat} (hb:v.ownBlock=some b):B0<=b/\b<W.heap.size:=by
 obtain⟨inner,ho⟩:=Kd.R_own h;exact own_lt' ho hb
theorem Grow.R (B0:Nat) (e base:Nat) (ok:Nat->Prop) (v:Value) (xs:List α):Grow B0 (fun W=>d.R e W base ok v xs):=by
 refine⟨fun {W W'} h hb=>Kd.R_below h hb,fun {W l o} o' h hl ho hc=>?_⟩;refine Kd.R_mono (Kd.R_move (Kd.R_bound h) fun k hk=>?_) (fun _ hk=>hk.1);refine World.putObj_heap_other fun e'=>?_
 obtain⟨_,_,_,q,_,cells,hc'⟩:=hk;subst e';rw[hc'] at ho;cases ho;cases hc
theorem box_R {e t:TypeId} {B0 Bx:Nat} {W w1:World} {v v1:Value} {xs ys:List α} (hbx:Boxed W Bx t v) (hR:d.R e W B0 (fun k=>k ≠ Bx) v xs)
  (h1:d.R e w1 B0 (fun k=>k ≠ Bx) v1 ys) (hg:W.grownBy w1 v.ownBlock) (hat:v1.ownBlock=v.ownBlock \/ ∃ b,v1.ownBlock=some b/\W.heap.size<=b) :
  Boxed w1 Bx t v/\Boxed (w1.setCell ⟨Bx,0,none⟩ v1) Bx t v1/\d.R e (w1.setCell ⟨Bx,0,none⟩ v1) B0 (fun k=>k ≠ Bx) v1 ys/\Step (OwnS Bx v) (OwnS Bx v1) W (w1.setCell ⟨Bx,0,none⟩ v1)/\(∀ b,OwnS Bx v1 b->b<(w1.setCell ⟨Bx,0,none⟩ v1).heap.size):=by
 have hb1:Boxed w1 Bx t v:=hbx.kept hg (fun e'=>hR.1 Bx e'.symm rfl);have hb2:=hb1.set v1;have hR2:d.R e (w1.setCell ⟨Bx,0,none⟩ v1) B0 (fun k=>k ≠ Bx) v1 ys:=Kd.R_far (p:=⟨Bx,0,none⟩) h1 (fun _ hk=>hk) v1;have hsz:w1.heap.size<=(w1.setCell ⟨Bx,0,none⟩ v1).heap.size:=by
  have:=(Below.setCell (Below.refl 0 w1) (p:=⟨Bx,0,none⟩) (Nat.zero_le _) v1).size;exact this
 refine⟨hb1,hb2,hR2,⟨?_,?_,?_,Nat.le_trans hg.size hsz,fun b hb hS=>?_,fun b hb=>?_⟩,fun b hb=>?_⟩
 ·exact ((Below.setCell (Below.refl 0 w1) (p:=⟨Bx,0,none⟩) (Nat.zero_le _) v1).os).trans hg.os
 ·exact ((Below.setCell (Below.refl 0 w1) (p:=⟨Bx,0,none⟩) (Nat.zero_le _) v1).tape).trans hg.tape
 ·exact ((Below.setCell (Below.refl 0 w1) (p:=⟨Bx,0,none⟩) (Nat.zero_le _) v1).output).trans hg.output
 ·exact (Below.heap_setCell w1 ⟨Bx,0,none⟩ v1 b (fun h=>hS (.inl h))).trans (hg.block b hb (fun h=>hS (.inr h.symm)))
 ·rcases hb with rfl | hb
  ·exact .inl (.inl rfl)
  ·rcases hat with h | ⟨g,h,hle⟩
   ·exact .inl (.inr (by rw[<- h];exact hb))
   ·rw[h] at hb
    have:g=b:=OSI hb;exact .inr (by omega)
 ·rcases hb with rfl | hb
  ·exact hb2.lt
  ·exact (own_ltR hR2 hb).2
end
end Go.Proofs.YtmkgecapkeojaaaGreat.Run
end
section
namespace Go.Proofs.YtmkgecapkeojaaaGreat.Eg
open PDa
open RowKit YtmkgecapkeojaaaGreatW.PrintWords YtmkgecapkeojaaaGreatW.PrintLast YtmkgecapkeojaaaGreatW.PrintMore
open SortM Run Stp Rw
def PhiRun (x:List Vl × List Jp) (args:Array Value) (W:World):Prop := ∃ Ar cr Aj cj,args=#[.slice Ar x.1.length cr,.slice Aj x.2.length cj]/\Kd.R kV 65 W 0 (fun _=>True) (.slice Ar x.1.length cr) x.1/\Kd.R kJ 85 W 0 (fun _=>True) (.slice Aj x.2.length cj) x.2
def PhiRunB (x:List Vl × List Jp) (args:Array Value) (z:Nat) (W:World):Prop := ∃ Ar cr Aj cj,args=#[.slice Ar x.1.length cr,.slice Aj x.2.length cj]/\Kd.R kV 65 W z (fun _=>True) (.slice Ar x.1.length cr) x.1/\Kd.R kJ 85 W z (fun _=>True) (.slice Aj x.2.length cj) x.2
theorem PhiRunB.old {x:List Vl × List Jp} {args:Array Value} {z:Nat} {W:World} (h:PhiRunB x args z W):PhiRun x args W:=by
 obtain⟨Ar,cr,Aj,cj,h1,h2,h3⟩:=h;exact⟨Ar,cr,Aj,cj,h1,Kd.R_lower h2 (Nat.zero_le _),Kd.R_lower h3 (Nat.zero_le _)⟩
def runs1.T6:Bool × List (List Nat × List Nat):=(true,[([],[]),([],[]),([],[]),([1,2],[1,2]),([3],[3]),([4],[4]),([],[]),([],[]),([6,7],[6,7]),([8],[8]),([9],[9]),([5,10],[5,10]),([11],[11]),([0,12],[0,12]),([13,13,0,1,2,3,4,5,6,7,8,9,10,11,12,13],[0,13])])
def runs1.B6:List Nat:=[0,0,0,6,14,30,0,0,192,448,960,2046,4094,8191,16383]
theorem runs1.tab6:rtab .any (opsOf Tryz.f125 6)=runs1.T6:=by kernel_rfl
theorem runs1.bits6:waitsOk runs1.T6.2 runs1.B6=true:=by kernel_rfl
theorem runs1_iterB (n:Nat) (hn:3<=n) (A0:Option Addr) (c0:Nat) (l:List EdP) (cp:Nat) (R:Nat->Prop) (wE w0:World)
  (hr0:Kd.C k41 wE A0 l.length l) (hE:Below wE.heap.size wE w0) (hcp:w0.cell? ⟨cp,0,none⟩=some (.slice A0 l.length c0))
  (hR0:∀ b,b<wE.heap.size->R b) (hRp:R cp) (hRw:∀ b,R b->b<w0.heap.size) (hl:l.length<=1099511627776) (hrow:∀ e ∈ l,e.f0.length<=4398046511104) :
  IterOnB Fence.wide n Tryz.prog 125 #[.pointer (some ⟨cp,0,none⟩)] (runsP l) PhiRunB R w0:=by
 refine⟨hRw,fun l' J Jx S W hW hS hJ hJx hY h0=>?_⟩;have hu:=Tryz.underlying41;have hu43:Tryz.prog.underlying 43=some (.slice 85):=by kernel_rfl
 obtain⟨i0,hi0,hz0,hz1,hz2⟩:=info_parts infoJump;have hRW:∀ b,R b->b<W.heap.size:=fun b hb=>Nat.lt_of_lt_of_le (hRw b hb) hW.size
 have KW:∀ (S1:Nat->Prop) (wr:World),Step S S1 W wr->Keeps R w0 wr:=fun _ _ h=>hW.trans (h.keeps fun b hb=>⟨hRW b hb,fun hs=>(hS b hs).1 hb⟩)
 have KE:∀ (S1:Nat->Prop) (wr:World),Step S S1 W wr->Below wE.heap.size wE wr:=fun _ _ h=>hE.trans ((KW _ _ h).below hR0)
 have HP:=Hd hcp;have HR:=Hd hr0;have HY:=Hd hY;have HJ:=Hd hJ;have HKW:=Hd KW;have HKE:=Hd KE;have HL:=Hd hl;have HS:=Hd hS;have cpW:=(hW.cell (p:=⟨cp,0,none⟩) hRp).trans hcp;clear hcp hr0 hY hJ KW KE hS hRW hE hR0 hJx;refine callsIn_of_wp Tryz.func125 rfl trivial ?_ rfl;simp only[Tryz.ntmps125,List.size_toArray,List.length_cons,List.length_nil,Nat.reduceAdd,Nat.reduceSub,Array.replicate_succ,Array.replicate_zero,List.push_toArray,List.append_toArray,List.nil_append,List.cons_append];gi_wp2
 gi_loopw [3] (fun v wr=>∃ (k:Nat) (pre:List (List Vl × List Jp)) (S1:Nat->Prop),k<=l.length/\v = .int .i64 (k:Int)/\Aside0 (runsP l=pre ++ runsP (l.drop k))/\Aside0 (Step S S1 W wr)/\Aside0 (∀ b,S1 b->b<wr.heap.size)/\Aside0 (J pre.length S1 wr)) (fun v wr=>l.length - (intOf v).toNat)
 case atStart=>exact⟨0,[],S,by omega,rfl,⟨rfl⟩,⟨Step.refl _ _⟩,⟨fun b hb=>(HS.out b hb).2⟩,⟨h0⟩⟩
 case round =>
  obtain⟨k,pre,S1,hk,rfl,HE,HST,HSB,HJ1⟩:=hrel;have hl9:=HL.out;have cpr:=((HKW.out _ _ HST.out).cell (p:=⟨cp,0,none⟩) hRp).trans HP.out
  by_cases c:k<l.length
  ·obtain⟨X,hX⟩:∃ X,l[k]=X:=⟨_,rfl⟩
   obtain⟨ad,Ax,cx,e1,x0,x1,x2,x3,x4⟩:=at_T41 (Kd.C_below HR.out (HKE.out _ _ HST.out)) (k:Int) zq4 zq4;have hrd:rd_T41 l (k:Int)=X:=by
    unfold rd_T41;rw[Int.toNat_natCast,List.getD_eq_getElem?_getD,List.getElem?_eq_getElem c];exact hX
   rw[Int.toNat_natCast,hrd] at x0 x1 x2;rw[hrd] at x3 x4;clear hrd;cases e1;have HX:=Hd hX;have HX3:=Hd x3;have HX4:=Hd x4;have HRS:=Hd (show runsP l=pre ++ runAt X.f0 [] (l.drop k) by rw[HE.out,runs_start l k c,hX]);obtain⟨wo,hwo⟩:∃ x,x=wr:=⟨_,rfl⟩
   subst hwo;clear hX x3 x4;gi_wp2;refine wpIn_wide.2 ?_
   go_loopw [3,5] (fun v3 v5 wr=>∃ (j:Nat) (js:List Jp),k<=j/\j<=l.length/\v3 = .int .i64 (j:Int)/\Aside0 (js.length<=j)/\Aside0 (runsP l=pre ++ runAt X.f0 js (l.drop j))/\Aside0 (Kd.R kJ 85 wr wo.heap.size (fun _=>True) v5 js)/\Aside0 (Below wo.heap.size wo wr)) (fun v3 v5 wr=>l.length - (intOf v3).toNat)
   case atStart =>
    refine⟨k,[],Nat.le_refl _,hk,rfl,⟨Nat.zero_le _⟩,⟨HRS.out⟩,⟨R_of_cells (xs:=[]) ⟨rfl,.inr ⟨wo.heap.size,0,#[],rfl,Nat.le_refl _,?_,Nat.le_refl _,Nat.zero_le _,rfl,rfl⟩⟩⟩,⟨below_alloc (Below.refl _ wo) _⟩⟩;exact blk_new wo _
   case round =>
    obtain⟨j,js,hkj,hj,rfl,HJS,HRA,HOW,HBo⟩:=hrel;have cpr2:=pw_cell_below HBo.out cpr;have HXb:=Hd (Kd.C_below HX4.out HBo.out)
    by_cases cj:j<l.length
    ·obtain⟨Y,hYj⟩:∃ Y,l[j]=Y:=⟨_,rfl⟩
     obtain⟨ad2,Ay,cy,e2,y0,y1,y2,y3,y4⟩:=at_T41 (Kd.C_below HR.out ((HKE.out _ _ HST.out).trans (HBo.out.mono (HKE.out _ _ HST.out).size))) (j:Int) zq4 zq4;have hrd:rd_T41 l (j:Int)=Y:=by
      unfold rd_T41;rw[Int.toNat_natCast,List.getD_eq_getElem?_getD,List.getElem?_eq_getElem cj];exact hYj
     rw[Int.toNat_natCast,hrd] at y0 y1 y2;rw[hrd] at y3 y4;clear hrd;cases e2;have hxl:X.f0.length<=4398046511104:=hrow X (by rw[<- HX.out];exact List.getElem_mem c);have hyl:Y.f0.length<=4398046511104:=hrow Y (by rw[<- hYj];exact List.getElem_mem cj);have SC:=Hd (same_calls Ay Ax cy cx Y.f0 X.f0 wr y4 HXb.out hyl hxl);have HYj:=Hd hYj;clear hYj y3 y4 hxl hyl x0 x1 x2;have p171:=eq_true (show (0:Int)<=(j:Int) by omega);have q171:=eq_true (show (j:Int)<(l.length:Int) by omega);cases hs:eqR Y.f0 X.f0 with
     | true =>
      rw[hs] at SC;have HRB:=Hd (show runsP l=pre ++ runAt X.f0 (js ++ [jmpE Y]) (l.drop (j+1)) by rw[HRA.out,runAt_step l j cj X.f0 js (by rw[HYj.out];exact hs),HYj.out]);clear hs
      go_wp2_with (go_at_call 126;(with_reducible refine SC.out.mono ?_);rintro e w4 ⟨rfl,hb4⟩;have HB4:=Hd hb4;clear hb4)
      have HD4:=Hd (below_drew1 HB4.out);have cp4:=pw_cell_below HD4.out cpr2;have z1:=pw_cell_below HD4.out y1;have z2:=pw_cell_below HD4.out y2;have HO4:=Hd (Kd.R_below HOW.out HD4.out);have HW4:=Hd (show Below wo.heap.size wo w4.drew from HBo.out.trans (HD4.out.mono HBo.out.size));clear HB4;clear y0 y1 y2 cpr cpr2;refine start_ (n:=15) (S:=fun w'=>w'.cell? ⟨cp,0,none⟩=some (.slice (some ad) l.length c0)/\w'.cell? ⟨(ad.add (j*3)).block,(ad.add (j*3)).off+1,none⟩=some (.int .i64 Y.f1)/\w'.cell? ⟨(ad.add (j*3)).block,(ad.add (j*3)).off+2,none⟩=some (.int .i64 Y.f2)) (ds:=[12,13]) #[false,false,false,false,false,false,false,false,false,false,false,false,false,false,false] zq17 rfl rfl ⟨cp4,z1,z2⟩ (fun hHeld=>?_);refine with_tabW runs1.tab6 runs1.bits6 (fun HT_ HW_=>?_);generalize w4.drew=wD at cp4 z1 z2 HD4 HO4 HW4 hHeld ⊢;refine pZ 0 31 ?_;refine pZ 2 33 ?_;refine pZ 7 38 ?_;refine tZ3 1 32 ?_;refine pZ 3 34 ?_;refine pZ 4 35 ?_;refine tZ3 5 36 ?_;refine tZ3 6 37 ?_;refine pZ 8 39 ?_;refine pZ 9 40 ?_;refine tZ3 10 41 ?_;refine pZ 11 42 ?_;refine last_ (i:=12) (N:=some 43) #[true,true,true,true,true,true,true,true,true,true,true,true,true,false,false] rfl rfl (one_of HT_.out zq17) zq34 (fun K hK=>?_);refine value_ (w1:=?_) (v:=?_) (by rfl) rfl ?_ ?_;rotate_left 2
      ·go_simp
       constructor
       ·rfl
       ·rfl
      refine hK.out _ _ ?_;clear hK K;refine nZ 43 ?_;refine last_ (i:=13) (N:=some 44) #[true,true,true,true,true,true,true,true,true,true,true,true,true,true,false] rfl rfl (one_of HT_.out zq17) zq34 (fun K hK=>?_);refine Kd.R_append_step kJ (w0:=wo) wo.heap.size (by rfl) (.tmp 31) (.tmp 43) 43 85 (.agg #[(.int .i64 0),(.int .i64 0)]) 16 rfl hu43 info85 rfl zq34 zq4 u5 js (jmpE Y) [.int .i64 Y.f1,.int .i64 Y.f2] (fun _=>True) (fun _=>False) rfl rfl ?aP (fun _ hk=>hk.elim) (fun _ _=>trivial) ?aO ?aB ?aS ?aL ?_
      case aP=>exact k85_mkM _ _ _ (jmpE Y)
      case aO=>exact HO4.out
      case aB=>exact HW4.out
      case aS=>exact HW4.out.size
      case aL=>have:=HJS.out;have:=HL.out;omega
      intro v1 w1 ho hb hg hat;have HO5:=Hd ho;have HB5:=Hd hb;clear ho hb hg hat;refine hK.out _ _ ?_;clear hK K;refine nZ 44 ?_;refine pZ 14 5 ?_;refine done_ (done_of HT_.out zq17) ?_;go_wp2;go_roundw
      case rel=>exact⟨j+1,js ++ [jmpE Y],by omega,by omega,by go_num,⟨by have:=HJS.out;simp;omega⟩,⟨HRB.out⟩,⟨HO5.out⟩,⟨HB5.out⟩⟩
      case measure=>simp[intOf];omega
     | false =>
      rw[hs] at SC;have HRB:=Hd (show runsP l=pre ++ (X.f0,js) :: runsP (l.drop j) by rw[HRA.out,runAt_end l j hj X.f0 js (fun h=>by rw[HYj.out];exact hs)]);have HKJ:=Hd (show k<j by
       rcases Nat.lt_or_ge k j with h | h
       ·exact h
       ·exfalso
        obtain rfl:k=j:=by omega
        rw[<- HYj.out,HX.out,eqR_refl] at hs;cases hs)
      clear hs
      go_wp2_with (go_at_call 126;(with_reducible refine SC.out.mono ?_);rintro e w4 ⟨rfl,hb4⟩;have HB4:=Hd hb4;clear hb4)
      have HBZ:=Hd (HBo.out.trans (HB4.out.mono HBo.out.size));have HRZ:=Hd (Kd.R_below HOW.out HB4.out);have HXZ:=Hd (Kd.C_below HX4.out HBZ.out);have CC:=Hd (copy_calls Ax cx X.f0 w4 HXZ.out (hrow X (by rw[<- HX.out];exact List.getElem_mem c)));have hget:(runsP l)[pre.length]? = some (X.f0,js):=by rw[HRB.out];simp
      obtain⟨Aj,cjj,rfl⟩:=Kd.R_slice HRZ.out
      try clear x0 x1 x2
      gi_wp2_with (refine⟨trivial,fun _=>?hn,?_⟩;(case hn=>omega);(with_reducible refine (callsIn_wide.2 CC.out).mono ?_);rintro e w5 ⟨vr,rfl,hRc,hb5⟩;obtain⟨Ar,cr,rfl⟩:=Kd.R_slice hRc;have HB5:=Hd (HBZ.out.trans (hb5.mono HBZ.out.size));have HJ5:=Hd ((HJ.out _ _).below HJ1.out HB5.out);have HS5:=Hd (fun b (h:S1 b)=>Nat.lt_of_lt_of_le (HSB.out b h) HB5.out.size);have HT5:=Hd (HST.out.trans (Step.of_below HB5.out));obtain⟨fn,tmps,assign,body,hy,hRd⟩:=HY.out pre.length (X.f0,js) #[.slice Ar X.f0.length cr,.slice Aj js.length cjj] wo.heap.size S1 w5 hget HJ5.out HSB.out HB5.out.size HT5.out ⟨Ar,cr,Aj,cjj,rfl,Kd.R_lower hRc HBZ.out.size,Kd.R_below HRZ.out hb5⟩;clear hRc hb5 hget)
      refine⟨fun _=>by omega,hRd.mono ?_⟩;rintro e W' (⟨rfl,S3,hs3,hb3,hj3⟩ | ⟨rfl,S3,hs3,hb3,hj3⟩)
      ·have HQ:=Hd hs3
       have HB3:=Hd hb3;have HJ3:=Hd hj3;clear hs3 hb3 hj3;gi_wp2;go_roundw
       case rel=>exact⟨j,pre ++ [(X.f0,js)],S3,by omega,rfl,⟨by rw[HRB.out];simp⟩,⟨HT5.out.trans HQ.out⟩,⟨HB3.out⟩,⟨by rw[List.length_append];exact HJ3.out⟩⟩
       case measure=>have:=HKJ.out;simp[intOf];omega
      ·have HQ:=Hd hs3
       have HB3:=Hd hb3;have HJ3:=Hd hj3;clear hs3 hb3 hj3;gi_wp2;refine bodyPost_ret (results_none rfl _ _ _) rfl ?_;exact⟨⟨_,rfl⟩,S3,HT5.out.trans HQ.out,HB3.out,.inr HJ3.out⟩
    ·obtain rfl:j=l.length:=by omega
     have HRB:=Hd (show runsP l=pre ++ (X.f0,js) :: runsP (l.drop l.length) by rw[HRA.out,runAt_end l l.length (Nat.le_refl _) X.f0 js (fun h=>absurd h zq4)]);have HKJ:=Hd (show k<l.length from c);go_wp2;have HBZ:=HBo;have HRZ:=HOW;have HXZ:=Hd (Kd.C_below HX4.out HBZ.out);have CC:=Hd (copy_calls Ax cx X.f0 wr HXZ.out (hrow X (by rw[<- HX.out];exact List.getElem_mem c)));have hget:(runsP l)[pre.length]? = some (X.f0,js):=by rw[HRB.out];simp
     obtain⟨Aj,cjj,rfl⟩:=Kd.R_slice HRZ.out
     try clear x0 x1 x2
     gi_wp2_with (refine⟨trivial,fun _=>?hn,?_⟩;(case hn=>omega);(with_reducible refine (callsIn_wide.2 CC.out).mono ?_);rintro e w5 ⟨vr,rfl,hRc,hb5⟩;obtain⟨Ar,cr,rfl⟩:=Kd.R_slice hRc;have HB5:=Hd (HBZ.out.trans (hb5.mono HBZ.out.size));have HJ5:=Hd ((HJ.out _ _).below HJ1.out HB5.out);have HS5:=Hd (fun b (h:S1 b)=>Nat.lt_of_lt_of_le (HSB.out b h) HB5.out.size);have HT5:=Hd (HST.out.trans (Step.of_below HB5.out));obtain⟨fn,tmps,assign,body,hy,hRd⟩:=HY.out pre.length (X.f0,js) #[.slice Ar X.f0.length cr,.slice Aj js.length cjj] wo.heap.size S1 w5 hget HJ5.out HSB.out HB5.out.size HT5.out ⟨Ar,cr,Aj,cjj,rfl,Kd.R_lower hRc HBZ.out.size,Kd.R_below HRZ.out hb5⟩;clear hRc hb5 hget)
     refine⟨fun _=>by omega,hRd.mono ?_⟩;rintro e W' (⟨rfl,S3,hs3,hb3,hj3⟩ | ⟨rfl,S3,hs3,hb3,hj3⟩)
     ·have HQ:=Hd hs3
      have HB3:=Hd hb3;have HJ3:=Hd hj3;clear hs3 hb3 hj3;gi_wp2;go_roundw
      case rel=>exact⟨l.length,pre ++ [(X.f0,js)],S3,by omega,rfl,⟨by rw[HRB.out];simp⟩,⟨HT5.out.trans HQ.out⟩,⟨HB3.out⟩,⟨by rw[List.length_append];exact HJ3.out⟩⟩
      case measure=>have:=HKJ.out;simp[intOf];omega
     ·have HQ:=Hd hs3
      have HB3:=Hd hb3;have HJ3:=Hd hj3;clear hs3 hb3 hj3;gi_wp2;refine bodyPost_ret (results_none rfl _ _ _) rfl ?_;exact⟨⟨_,rfl⟩,S3,HT5.out.trans HQ.out,HB3.out,.inr HJ3.out⟩
  ·obtain rfl:k=l.length:=by omega
   have HN:=Hd (show pre.length=(runsP l).length by rw[HE.out,List.drop_length];simp[runsP]);gi_wp2
   go_end0
   exact⟨⟨_,rfl⟩,S1,HST.out,HSB.out,.inl (by rw[<- HN.out];exact HJ1.out)⟩
theorem runs1_iter (n:Nat) (hn:3<=n) (A0:Option Addr) (c0:Nat) (l:List EdP) (cp:Nat) (R:Nat->Prop) (wE w0:World)
  (hr0:Kd.C k41 wE A0 l.length l) (hE:Below wE.heap.size wE w0) (hcp:w0.cell? ⟨cp,0,none⟩=some (.slice A0 l.length c0))
  (hR0:∀ b,b<wE.heap.size->R b) (hRp:R cp) (hRw:∀ b,R b->b<w0.heap.size) (hl:l.length<=1099511627776) (hrow:∀ e ∈ l,e.f0.length<=4398046511104) :
  IterOn Fence.wide n Tryz.prog 125 #[.pointer (some ⟨cp,0,none⟩)] (runsP l) PhiRun R w0 :=
 (runs1_iterB n hn A0 c0 l cp R wE w0 hr0 hE hcp hR0 hRp hRw hl hrow).old fun _ _ _ _ h=>h.old
end Go.Proofs.YtmkgecapkeojaaaGreat.Eg
end
