/- Texts of this claim, put together by a program: SymJ, StabJ, NilJ, StepB, StepM, RunApp, StepC, StepP, StepD, RowA, RowB, RowC. -/
import Derived.Test.YtmkgecapkeojaaaGreatJ6
import Derived.Deep.DeepCutAuto
import Derived.RangeFuncBox
import Derived.OwnWalkIn
import Derived.Maps.AppendAt
set_option linter.unusedVariables false
set_option linter.unusedSimpArgs false
set_option maxHeartbeats 8000000
set_option maxRecDepth 100000
section
namespace Go.Proofs.YtmkgecapkeojaaaGreat.SortJ
open Go RowKit YtmkgecapkeojaaaGreatW.PrintWords YtmkgecapkeojaaaGreatW.PrintLast YtmkgecapkeojaaaGreatW.PrintMore
open Run SortP SortM PDa
theorem symA_calls (cf:El->El->Int) (o:Ord cf) (OK:El->Prop) (blk cap n:Nat) (fn:Nat) (hn:n<=17592186044416) (hfn:∀ args w,(callFunc fn args).run Tryz.prog w = .ok (.enter fn args) w) (g:Nat->El) (a m b:Nat) (w:World) (hH:Holds enc 2 w blk 85 n g) (hok:∀ i,i<n->OK (g i)) (ham:a+1=m) (hmb:m<b) (hb:b<=n) (h2:Up cf g m b)
  (hcmp:∀ (x y:El) (w1:World),OK x->OK y->Step (OnlyB blk) (OnlyB blk) w w1->Calls Tryz.prog fn #[.agg #[.int .i64 x.at',.int .i64 x.net],.agg #[.int .i64 y.at',.int .i64 y.net]] w1 fun e w'=>e = .returned (.int .i64 (cf x y))/\Below w1.heap.size w1 w') :
  Calls Tryz.prog 189 #[.slice (some ⟨blk,0,none⟩) n cap,.int .i64 (a:Int),.int .i64 (m:Int),.int .i64 (b:Int),.func (.func fn) #[] #[]] w fun e w'=>e = .returned (.tuple #[]) /\ ∃ g',Holds enc 2 w' blk 85 n g'/\Up cf g' a b/\SameOn g g' a b/\Step (OnlyB blk) (OnlyB blk) w w'/\(row g' n).Perm (row g n):=by
 have HH:=Hd hH;have HOK:=Hd hok;have HC:=Hd hcmp;have H2:=Hd h2;have b0:((m:Int) - (a:Int) == 1)=true:=beq_iff_eq.2 zq4;have e0:(m:Int) - (a:Int)=1:=by omega
 clear hH hok hcmp h2;go_enter Tryz.func189,Tryz.ntmps189;go_wp2
 go_loopw [10,11] (fun v10 v11 wr=>∃ (i j:Nat),m<=i/\i<=j/\j<=b/\v10 = .int .i64 (i:Int)/\v11 = .int .i64 (j:Int)/\Aside0 (i=m\/cf (g (i - 1)) (g a)<0)/\Aside0 (j=b \/ ¬ cf (g j) (g a)<0)/\Aside0 (Below w.heap.size w wr)) (fun v10 v11 wr=>(intOf v11).toNat - (intOf v10).toNat)
 case atStart=>exact⟨m,b,by omega,by omega,by omega,rfl,rfl,⟨.inl rfl⟩,⟨.inl rfl⟩,⟨Below.refl _ _⟩⟩
 case round =>
  obtain⟨i,j,hmi,hij,hjb,rfl,rfl,HI,HJ,HB⟩:=hrel
  by_cases ci:i<j
  ·clear e0
   obtain⟨h,hh⟩:∃ h:Nat,(i+j) / 2=h:=⟨_,rfl⟩
   have eh:((i:Int)+(j:Int)) / 2=(h:Int):=by omega
   have hih:i<=h:=by omega
   have hhj:h<j:=by omega
   have HO:=Hd (HH.out.below HB.out);have hpn:h<n:=by omega
   have hrn:a<n:=by omega
   obtain⟨X,hX⟩:∃ X,g h=X:=⟨_,rfl⟩
   obtain⟨Y,hY⟩:∃ Y,g a=Y:=⟨_,rfl⟩
   have hx:=fun j' u hc_=>HO.out.cell (i:=h) (j:=j') (u:=u) hpn hc_
   have hy:=fun j' u hc_=>HO.out.cell (i:=a) (j:=j') (u:=u) hrn hc_
   rw[hX] at hx;rw[hY] at hy;have x0:=hx 0 _ rfl;rw[Nat.add_zero] at x0;have x1:=hx 1 _ rfl;have y0:=hy 0 _ rfl;rw[Nat.add_zero] at y0;have y1:=hy 1 _ rfl;have CM:=Hd (fun (p:BelowOf wr)=>HC.out X Y p.W (hX ▸ HOK.out h hpn) (hY ▸ HOK.out a hrn) (Step.of_below (HB.out.trans (p.h.mono HB.out.size))));obtain⟨cv,hcv⟩:∃ cv,cf X Y=cv:=⟨_,rfl⟩
   rw[hcv] at CM;have HCV:=Hd (show cf (g h) (g a)=cv by rw[hX,hY];exact hcv);have x0':=fun p=>BelowOf.cell x0 p
   have x1':=fun p=>BelowOf.cell x1 p
   have y0':=fun p=>BelowOf.cell y0 p
   have y1':=fun p=>BelowOf.cell y1 p
   clear hx hy hX hY hcv;have l1:(h:Int)<(n:Int):=by omega
   have l2:(a:Int)<(n:Int):=by omega
   have hu:=Tryz.underlying85
   by_cases hc:cv<0
   ·have bc:decide (cv<0)=true:=DET hc
    clear hh hpn hrn;go_wp2;refine wp_region_quiet_below zq17 zq17 ?_
    repeat (go_big_quiet_step (exact below_calls (CM.out _)))
    refine wpQuiet_nil ?_;intro wq hw1;have HWQ:=Hd (show Below wr.heap.size wr wq by obtain⟨p,rfl⟩:=hw1;exact p.h);clear hw1;go_wp2;go_roundw
    case rel=>exact⟨h+1,j,by omega,by omega,by omega,by go_num,rfl,⟨.inr (by rw[Nat.add_sub_cancel,HCV.out];have:=ODT bc;omega)⟩,⟨by have:=HJ.out;omega⟩,⟨HB.out.trans (HWQ.out.mono HB.out.size)⟩⟩
    case measure=>simp[intOf];omega
   ·have bc:decide (cv<0)=false:=DEF hc
    clear hh hpn hrn;go_wp2;refine wp_region_quiet_below zq17 zq17 ?_
    repeat (go_big_quiet_step (exact below_calls (CM.out _)))
    refine wpQuiet_nil ?_;intro wq hw1;have HWQ:=Hd (show Below wr.heap.size wr wq by obtain⟨p,rfl⟩:=hw1;exact p.h);clear hw1;go_wp2;go_roundw
    case rel=>exact⟨i,h,by omega,by omega,by omega,rfl,rfl,⟨by have:=HI.out;omega⟩,⟨.inr (by rw[HCV.out];have:=of_decide_eq_false bc;omega)⟩,⟨HB.out.trans (HWQ.out.mono HB.out.size)⟩⟩
    case measure=>simp[intOf];omega
  ·obtain rfl:i=j:=by omega
   have HO:=Hd (HH.out.below HB.out);obtain⟨t,ht⟩:∃ t,i=t+1:=⟨i - 1,by omega⟩
   have ei:(i:Int) - 1=(t:Int):=by omega
   have ei2:IntKind.i64.wrap ((i:Int) - 1)=(t:Int):=by rw[IntKind.wrap_i64];omega
   clear e0;go_wp2
   go_loopw [13] (fun v13 wr2=>∃ (q:Nat),a+q<=t/\v13 = .int .i64 ((a+q:Nat):Int)/\Aside0 (Holds enc 2 wr2 blk 85 n (shiftUp g a q))/\Aside0 (SameOn g (shiftUp g a q) a b)/\Aside0 (Step (OnlyB blk) (OnlyB blk) w wr2)/\Aside0 ((row (shiftUp g a q) n).Perm (row g n))) (fun v13 wr2=>i - (intOf v13).toNat)
   case atStart=>exact⟨0,by omega,by simp,⟨by rw[shiftUp_zero];exact HO.out⟩,⟨by rw[shiftUp_zero];exact SameOn.refl _ _ _⟩,⟨Step.of_below HB.out⟩,⟨by rw[shiftUp_zero]⟩⟩
   case round =>
    obtain⟨q,hq,rfl,HO2,HSM,HS,HP⟩:=hrel;obtain⟨p,hp⟩:∃ p,a+q=p:=⟨_,rfl⟩
    rw[hp];have HPE:=Hd hp;obtain⟨g2,hg2⟩:∃ g2,shiftUp g a q=g2:=⟨_,rfl⟩
    rw[hg2] at HO2 HSM HP;have HG2:=Hd hg2;clear hg2
    by_cases cp:p<t
    ·obtain⟨r,hr⟩:∃ r,p+1=r:=⟨_,rfl⟩
     have HRE:=Hd hr;have er:(p:Int)+1=(r:Int):=by omega
     have er2:IntKind.i64.wrap ((p:Int)+1)=(r:Int):=by rw[IntKind.wrap_i64];omega
     have hpn:p<n:=by omega
     have hrn:r<n:=by omega
     obtain⟨X,hX⟩:∃ X,g2 p=X:=⟨_,rfl⟩
     obtain⟨Y,hY⟩:∃ Y,g2 r=Y:=⟨_,rfl⟩
     have hx:=fun j' u hc_=>HO2.out.cell (i:=p) (j:=j') (u:=u) hpn hc_
     have hy:=fun j' u hc_=>HO2.out.cell (i:=r) (j:=j') (u:=u) hrn hc_
     rw[hX] at hx;rw[hY] at hy;have x0:=hx 0 _ rfl;rw[Nat.add_zero] at x0;have x1:=hx 1 _ rfl;have y0:=hy 0 _ rfl;rw[Nat.add_zero] at y0;have y1:=hy 1 _ rfl;have l1:(p:Int)<(n:Int):=by omega
     have l2:(r:Int)<(n:Int):=by omega
     have hu:=Tryz.underlying85;have fz:=HO2.out.frozen;have z1:(wr.setCell ⟨blk,p*2,none⟩ (.int .i64 Y.at')).cell? ⟨blk,p*2+1,none⟩=some (.int .i64 X.net):=(far_cell x1 zq4 (.int .i64 Y.at'))
     have t0:((wr.setCell ⟨blk,p*2,none⟩ (.int .i64 Y.at')).setCell ⟨blk,p*2+1,none⟩ (.int .i64 Y.net)).cell? ⟨blk,r*2,none⟩=some (.int .i64 Y.at'):=(far_cell (far_cell y0 zq4 (.int .i64 Y.at')) zq4 (.int .i64 Y.net))
     have t1:(((wr.setCell ⟨blk,p*2,none⟩ (.int .i64 Y.at')).setCell ⟨blk,p*2+1,none⟩ (.int .i64 Y.net)).setCell ⟨blk,r*2,none⟩ (.int .i64 X.at')).cell? ⟨blk,r*2+1,none⟩=some (.int .i64 Y.net):=(far_cell (far_cell (far_cell y1 zq4 (.int .i64 Y.at')) zq4 (.int .i64 Y.net)) zq4 (.int .i64 X.at'))
     have HX:=Hd hX;have HY:=Hd hY;have HPN:=Hd hpn;have HRN:=Hd hrn;have bl:decide ((p:Int)<(t:Int))=true:=DET zq4;clear hx hy hX hY hp hr hpn hrn;go_wp2
     go_region
     have HO4:=Hd ((HO2.out.exch2 enc_len HPN.out HRN.out (show enc _=_ by rw[HX.out];rfl) (show enc _=_ by rw[HY.out];rfl)).drew);have HS4:=Hd (HS.out.trans (step_drew _ (step_exch2 wr blk (p*2) (p*2+1) (r*2) (r*2+1) (.int .i64 Y.at') (.int .i64 Y.net) (.int .i64 X.at') (.int .i64 X.net))));have HP4:=Hd ((exch_perm g2 n p r HPN.out HRN.out).trans HP.out);have HG4:=Hd (show exch g2 p r=shiftUp g a (q+1) by rw[<- HG2.out, <- HRE.out, <- HPE.out];exact shiftUp_step g a q);have HSM4:=Hd (show SameOn g (exch g2 p r) a b from HSM.out.trans (SameOn.exch g2 (by have:=HPE.out;omega) (by have:=HRE.out;omega) zq59 (by have:=HRE.out;omega)));rw[HG4.out] at HO4 HP4 HSM4;go_wp2;go_roundw
     case rel=>exact⟨q+1,by have:=HPE.out;omega,by rw[<- er];have:=HPE.out;go_num,⟨HO4.out⟩,⟨HSM4.out⟩,⟨HS4.out⟩,⟨HP4.out⟩⟩
     case measure=>simp[intOf];have:=HPE.out;omega
    ·have bl:decide ((p:Int)<(t:Int))=false:=DEF zq4
     have HU:=Hd (show Up cf g2 a b by
      rw[<- HG2.out];refine shiftUp_up o (by rw[ham];exact H2.out) zq4 ?_ ?_
      ·rcases HI.out with e | e
       ·exact .inl zq4
       ·exact .inr (by rw[show a+q=i - 1 by omega];omega)
      ·rcases HJ.out with e | e
       ·exact .inl zq4
       ·exact .inr (by rw[show a+q+1=i by omega];omega))
     go_wp2;refine bodyPost_ret (results_none rfl _ _ _) rfl ?_;exact⟨rfl,g2,HO2.out,HU.out,HSM.out,HS.out,HP.out⟩
theorem symB_calls (cf:El->El->Int) (o:Ord cf) (OK:El->Prop) (blk cap n:Nat) (fn:Nat) (hn:n<=17592186044416) (hfn:∀ args w,(callFunc fn args).run Tryz.prog w = .ok (.enter fn args) w) (g:Nat->El) (a m b:Nat) (w:World) (hH:Holds enc 2 w blk 85 n g) (hok:∀ i,i<n->OK (g i)) (ham:a+1<m) (hmb:m+1=b) (hb:b<=n) (h1:Up cf g a m)
  (hcmp:∀ (x y:El) (w1:World),OK x->OK y->Step (OnlyB blk) (OnlyB blk) w w1->Calls Tryz.prog fn #[.agg #[.int .i64 x.at',.int .i64 x.net],.agg #[.int .i64 y.at',.int .i64 y.net]] w1 fun e w'=>e = .returned (.int .i64 (cf x y))/\Below w1.heap.size w1 w') :
  Calls Tryz.prog 189 #[.slice (some ⟨blk,0,none⟩) n cap,.int .i64 (a:Int),.int .i64 (m:Int),.int .i64 (b:Int),.func (.func fn) #[] #[]] w fun e w'=>e = .returned (.tuple #[]) /\ ∃ g',Holds enc 2 w' blk 85 n g'/\Up cf g' a b/\SameOn g g' a b/\Step (OnlyB blk) (OnlyB blk) w w'/\(row g' n).Perm (row g n):=by
 have HH:=Hd hH;have HOK:=Hd hok;have HC:=Hd hcmp;have H1:=Hd h1;have b0:((m:Int) - (a:Int) == 1)=false:=beq_eq_false_iff_ne.2 zq4;have b1:((b:Int) - (m:Int) == 1)=true:=beq_iff_eq.2 zq4;have e0:(b:Int) - (m:Int)=1:=by omega
 clear hH hok hcmp h1;go_enter Tryz.func189,Tryz.ntmps189;go_wp2
 go_loopw [14,15] (fun v14 v15 wr=>∃ (i j:Nat),a<=i/\i<=j/\j<=m/\v14 = .int .i64 (i:Int)/\v15 = .int .i64 (j:Int)/\Aside0 (i=a \/ ¬ cf (g m) (g (i - 1))<0)/\Aside0 (j=m\/cf (g m) (g j)<0)/\Aside0 (Below w.heap.size w wr)) (fun v14 v15 wr=>(intOf v15).toNat - (intOf v14).toNat)
 case atStart=>exact⟨a,m,by omega,by omega,by omega,rfl,rfl,⟨.inl rfl⟩,⟨.inl rfl⟩,⟨Below.refl _ _⟩⟩
 case round =>
  obtain⟨i,j,hmi,hij,hjb,rfl,rfl,HI,HJ,HB⟩:=hrel
  by_cases ci:i<j
  ·clear e0
   obtain⟨h,hh⟩:∃ h:Nat,(i+j) / 2=h:=⟨_,rfl⟩
   have eh:((i:Int)+(j:Int)) / 2=(h:Int):=by omega
   have hih:i<=h:=by omega
   have hhj:h<j:=by omega
   have HO:=Hd (HH.out.below HB.out);have hpn:m<n:=by omega
   have hrn:h<n:=by omega
   obtain⟨X,hX⟩:∃ X,g m=X:=⟨_,rfl⟩
   obtain⟨Y,hY⟩:∃ Y,g h=Y:=⟨_,rfl⟩
   have hx:=fun j' u hc_=>HO.out.cell (i:=m) (j:=j') (u:=u) hpn hc_
   have hy:=fun j' u hc_=>HO.out.cell (i:=h) (j:=j') (u:=u) hrn hc_
   rw[hX] at hx;rw[hY] at hy;have x0:=hx 0 _ rfl;rw[Nat.add_zero] at x0;have x1:=hx 1 _ rfl;have y0:=hy 0 _ rfl;rw[Nat.add_zero] at y0;have y1:=hy 1 _ rfl;have CM:=Hd (fun (p:BelowOf wr)=>HC.out X Y p.W (hX ▸ HOK.out m hpn) (hY ▸ HOK.out h hrn) (Step.of_below (HB.out.trans (p.h.mono HB.out.size))));obtain⟨cv,hcv⟩:∃ cv,cf X Y=cv:=⟨_,rfl⟩
   rw[hcv] at CM;have HCV:=Hd (show cf (g m) (g h)=cv by rw[hX,hY];exact hcv);have x0':=fun p=>BelowOf.cell x0 p
   have x1':=fun p=>BelowOf.cell x1 p
   have y0':=fun p=>BelowOf.cell y0 p
   have y1':=fun p=>BelowOf.cell y1 p
   clear hx hy hX hY hcv;have l1:(h:Int)<(n:Int):=by omega
   have l2:(m:Int)<(n:Int):=by omega
   have hu:=Tryz.underlying85
   by_cases hc:cv<0
   ·have bc:decide (cv<0)=true:=DET hc
    clear hh hpn hrn;go_wp2;refine wp_region_quiet_below zq17 zq17 ?_
    repeat (go_big_quiet_step (exact below_calls (CM.out _)))
    refine wpQuiet_nil ?_;intro wq hw1;have HWQ:=Hd (show Below wr.heap.size wr wq by obtain⟨p,rfl⟩:=hw1;exact p.h);clear hw1;go_wp2;go_roundw
    case rel=>exact⟨i,h,by omega,by omega,by omega,rfl,rfl,⟨by have:=HI.out;omega⟩,⟨.inr (by rw[HCV.out];have:=ODT bc;omega)⟩,⟨HB.out.trans (HWQ.out.mono HB.out.size)⟩⟩
    case measure=>simp[intOf];omega
   ·have bc:decide (cv<0)=false:=DEF hc
    clear hh hpn hrn;go_wp2;refine wp_region_quiet_below zq17 zq17 ?_
    repeat (go_big_quiet_step (exact below_calls (CM.out _)))
    refine wpQuiet_nil ?_;intro wq hw1;have HWQ:=Hd (show Below wr.heap.size wr wq by obtain⟨p,rfl⟩:=hw1;exact p.h);clear hw1;go_wp2;go_roundw
    case rel=>exact⟨h+1,j,by omega,by omega,by omega,by go_num,rfl,⟨.inr (by rw[Nat.add_sub_cancel,HCV.out];have:=of_decide_eq_false bc;omega)⟩,⟨by have:=HJ.out;omega⟩,⟨HB.out.trans (HWQ.out.mono HB.out.size)⟩⟩
    case measure=>simp[intOf];omega
  ·obtain rfl:i=j:=by omega
   have HO:=Hd (HH.out.below HB.out);clear e0;go_wp2
   go_loopw [17] (fun v17 wr2=>∃ (q:Nat),q<=m - i/\v17 = .int .i64 ((m - q:Nat):Int)/\Aside0 (Holds enc 2 wr2 blk 85 n (shiftDown g m q))/\Aside0 (SameOn g (shiftDown g m q) a b)/\Aside0 (Step (OnlyB blk) (OnlyB blk) w wr2)/\Aside0 ((row (shiftDown g m q) n).Perm (row g n))) (fun v17 wr2=>(intOf v17).toNat)
   case atStart=>exact⟨0,by omega,by simp,⟨by rw[shiftDown_zero];exact HO.out⟩,⟨by rw[shiftDown_zero];exact SameOn.refl _ _ _⟩,⟨Step.of_below HB.out⟩,⟨by rw[shiftDown_zero]⟩⟩
   case round =>
    obtain⟨q,hq,rfl,HO2,HSM,HS,HP⟩:=hrel;obtain⟨p,hp⟩:∃ p,m - q=p:=⟨_,rfl⟩
    rw[hp];have HPE:=Hd hp;obtain⟨g2,hg2⟩:∃ g2,shiftDown g m q=g2:=⟨_,rfl⟩
    rw[hg2] at HO2 HSM HP;have HG2:=Hd hg2;clear hg2
    by_cases cp:i<p
    ·obtain⟨r,hr⟩:∃ r,p=r+1:=⟨p - 1,by omega⟩
     have HRE:=Hd hr;have er:(p:Int) - 1=(r:Int):=by omega
     have er2:IntKind.i64.wrap ((p:Int) - 1)=(r:Int):=by rw[IntKind.wrap_i64];omega
     have hpn:p<n:=by omega
     have hrn:r<n:=by omega
     obtain⟨X,hX⟩:∃ X,g2 p=X:=⟨_,rfl⟩
     obtain⟨Y,hY⟩:∃ Y,g2 r=Y:=⟨_,rfl⟩
     have hx:=fun j' u hc_=>HO2.out.cell (i:=p) (j:=j') (u:=u) hpn hc_
     have hy:=fun j' u hc_=>HO2.out.cell (i:=r) (j:=j') (u:=u) hrn hc_
     rw[hX] at hx;rw[hY] at hy;have x0:=hx 0 _ rfl;rw[Nat.add_zero] at x0;have x1:=hx 1 _ rfl;have y0:=hy 0 _ rfl;rw[Nat.add_zero] at y0;have y1:=hy 1 _ rfl;have l1:(p:Int)<(n:Int):=by omega
     have l2:(r:Int)<(n:Int):=by omega
     have hu:=Tryz.underlying85;have fz:=HO2.out.frozen;have z1:(wr.setCell ⟨blk,p*2,none⟩ (.int .i64 Y.at')).cell? ⟨blk,p*2+1,none⟩=some (.int .i64 X.net):=(far_cell x1 zq4 (.int .i64 Y.at'))
     have t0:((wr.setCell ⟨blk,p*2,none⟩ (.int .i64 Y.at')).setCell ⟨blk,p*2+1,none⟩ (.int .i64 Y.net)).cell? ⟨blk,r*2,none⟩=some (.int .i64 Y.at'):=(far_cell (far_cell y0 zq4 (.int .i64 Y.at')) zq4 (.int .i64 Y.net))
     have t1:(((wr.setCell ⟨blk,p*2,none⟩ (.int .i64 Y.at')).setCell ⟨blk,p*2+1,none⟩ (.int .i64 Y.net)).setCell ⟨blk,r*2,none⟩ (.int .i64 X.at')).cell? ⟨blk,r*2+1,none⟩=some (.int .i64 Y.net):=(far_cell (far_cell (far_cell y1 zq4 (.int .i64 Y.at')) zq4 (.int .i64 Y.net)) zq4 (.int .i64 X.at'))
     have HX:=Hd hX;have HY:=Hd hY;have HPN:=Hd hpn;have HRN:=Hd hrn;have bl:decide ((p:Int) > (i:Int))=true:=DET zq4;clear hx hy hX hY hp hr hpn hrn;go_wp2
     go_region
     have HO4:=Hd ((HO2.out.exch2 enc_len HPN.out HRN.out (show enc _=_ by rw[HX.out];rfl) (show enc _=_ by rw[HY.out];rfl)).drew);have HS4:=Hd (HS.out.trans (step_drew _ (step_exch2 wr blk (p*2) (p*2+1) (r*2) (r*2+1) (.int .i64 Y.at') (.int .i64 Y.net) (.int .i64 X.at') (.int .i64 X.net))));have HP4:=Hd ((exch_perm g2 n p r HPN.out HRN.out).trans HP.out);have HG4:=Hd (show exch g2 p r=shiftDown g m (q+1) by
      have h9:=shiftDown_step g m q zq59;rw[HG2.out,HPE.out,show p - 1=r by have:=HRE.out;omega] at h9;exact h9)
     have HSM4:=Hd (show SameOn g (exch g2 p r) a b from HSM.out.trans (SameOn.exch g2 zq59 (by have:=HPE.out;omega) zq59 zq59));rw[HG4.out] at HO4 HP4 HSM4;go_wp2;go_roundw
     case rel=>exact⟨q+1,by have:=HPE.out;have:=HRE.out;omega,by rw[show m - (q+1)=r by have:=HPE.out;have:=HRE.out;omega],⟨HO4.out⟩,⟨HSM4.out⟩,⟨HS4.out⟩,⟨HP4.out⟩⟩
     case measure=>simp[intOf];have:=HRE.out;omega
    ·have bl:decide ((p:Int) > (i:Int))=false:=DEF zq4
     have HU:=Hd (show Up cf g2 a b by
      rw[<- HG2.out, <- hmb];refine shiftDown_up o H1.out zq4 ?_ ?_
      ·rcases HI.out with e | e
       ·exact .inl zq4
       ·exact .inr (by rw[show m - q - 1=i - 1 by omega];omega)
      ·rcases HJ.out with e | e
       ·exact .inl zq4
       ·exact .inr (by rw[show m - q=i by omega];omega))
     go_wp2;refine bodyPost_ret (results_none rfl _ _ _) rfl ?_;exact⟨rfl,g2,HO2.out,HU.out,HSM.out,HS.out,HP.out⟩
theorem stopC {P:Program} {n rid:Nat} {ops:Array Oper} {bb:Bool} {A B:Code} {Q:Exit->Act->World->Prop} {a:Act} {w:World} (h:∀ J:Act->World->Prop,(∀ a w,(Code.seq (Code.region rid ops bb) (Code.cond (.tmp n) A B)).wp P Q a w->J a w)->Met J a w):(Code.seq (Code.region rid ops bb) (Code.cond (.tmp n) A B)).wp P Q a w:=h _ fun _ _ h=>h
theorem same_ok {OK:El->Prop} {g g':Nat->El} {a b n:Nat} (h:∀ i,i<n->OK (g i)) (hs:SameOn g g' a b) (hb:b<=n) {q:Nat} (hq:q<n):OK (g' q):=by
 by_cases c:a<=q/\q<b
 ·obtain⟨z,z1,z2,e⟩:=hs.2 q c.1 c.2
  rw[e];exact h z zq4
 ·rw[hs.1 q zq4];exact h q hq
theorem symC_calls (cf:El->El->Int) (o:Ord cf) (OK:El->Prop) (blk cap n:Nat) (fn:Nat) (hn:n<=17592186044416) (hfn:∀ args w,(callFunc fn args).run Tryz.prog w = .ok (.enter fn args) w) (g:Nat->El) (a m b:Nat) (w:World) (hH:Holds enc 2 w blk 85 n g) (hok:∀ i,i<n->OK (g i)) (ham:a+1<m) (hmb:m+1<b) (hb:b<=n) (h1:Up cf g a m) (h2:Up cf g m b)
  (IH:∀ (g:Nat->El) (a' m' b':Nat) (w:World),b' - a'<b - a->a'<m'->m'<b'->b'<=n->Holds enc 2 w blk 85 n g->(∀ i,i<n->OK (g i))->Up cf g a' m'->Up cf g m' b'->(∀ (x y:El) (w1:World),OK x->OK y->Step (OnlyB blk) (OnlyB blk) w w1->Calls Tryz.prog fn #[.agg #[.int .i64 x.at',.int .i64 x.net],.agg #[.int .i64 y.at',.int .i64 y.net]] w1 fun e w'=>e = .returned (.int .i64 (cf x y))/\Below w1.heap.size w1 w') ->
   Calls Tryz.prog 189 #[.slice (some ⟨blk,0,none⟩) n cap,.int .i64 (a':Int),.int .i64 (m':Int),.int .i64 (b':Int),.func (.func fn) #[] #[]] w fun e w'=>e = .returned (.tuple #[]) /\ ∃ g',Holds enc 2 w' blk 85 n g'/\Up cf g' a' b'/\SameOn g g' a' b'/\Step (OnlyB blk) (OnlyB blk) w w'/\(row g' n).Perm (row g n))
  (hcmp:∀ (x y:El) (w1:World),OK x->OK y->Step (OnlyB blk) (OnlyB blk) w w1->Calls Tryz.prog fn #[.agg #[.int .i64 x.at',.int .i64 x.net],.agg #[.int .i64 y.at',.int .i64 y.net]] w1 fun e w'=>e = .returned (.int .i64 (cf x y))/\Below w1.heap.size w1 w') :
  Calls Tryz.prog 189 #[.slice (some ⟨blk,0,none⟩) n cap,.int .i64 (a:Int),.int .i64 (m:Int),.int .i64 (b:Int),.func (.func fn) #[] #[]] w fun e w'=>e = .returned (.tuple #[]) /\ ∃ g',Holds enc 2 w' blk 85 n g'/\Up cf g' a b/\SameOn g g' a b/\Step (OnlyB blk) (OnlyB blk) w w'/\(row g' n).Perm (row g n):=by
 have HH:=Hd hH;have HOK:=Hd hok;have HC:=Hd hcmp;have H1:=Hd h1;have H2:=Hd h2;have b0:((m:Int) - (a:Int) == 1)=false:=beq_eq_false_iff_ne.2 zq4;have b1:((b:Int) - (m:Int) == 1)=false:=beq_eq_false_iff_ne.2 zq4;obtain⟨M,hM⟩:∃ M:Nat,(a+b) / 2=M:=⟨_,rfl⟩
 obtain⟨nn,hnn⟩:∃ nn:Nat,M+m=nn:=⟨_,rfl⟩
 have HM:=Hd hM;have HNN:=Hd hnn;have BN:=Hd hb;have em:((a:Int)+(b:Int)) / 2=(M:Int):=by omega
 have en1:(M:Int)+(m:Int)=(nn:Int):=by omega
 have en2:(nn:Int) - 1=((nn - 1:Nat):Int):=by omega
 have hM1:2*M<=a+b:=by omega
 have hM2:a+b<=2*M+1:=by omega
 obtain⟨s0,r0,K⟩:∃ s0 r0:Nat,(M<m/\s0+b=nn/\r0=M)\/(m<=M/\s0=a/\r0=m):=by
  by_cases c:M<m
  ·exact⟨nn - b,M,.inl ⟨c,by omega,rfl⟩⟩
  ·exact⟨a,m,.inr ⟨by omega,rfl,rfl⟩⟩
 have hK:a<=s0/\s0<=r0/\r0<=m/\r0<=M/\nn<=s0+b/\(s0=a\/s0+b=nn)/\(r0=m\/r0=M):=by omega
 clear hH hok hcmp h1 h2 hM;go_enter Tryz.func189,Tryz.ntmps189
 go_upto_if 140 with fail
 go_cut [20,21] (fun v20 v21 wx=>v20 = .int .i64 (s0:Int)/\v21 = .int .i64 (r0:Int)/\w=wx)
 case first =>
  rcases K with ⟨c,c1,rfl⟩ | ⟨c,rfl,rfl⟩
  ·have bm:decide ((m:Int) > (r0:Int))=true:=DET zq4
   have es0:(nn:Int) - (b:Int)=(s0:Int):=by omega
   go_wp2_with fail
   go_meet
   exact⟨rfl,rfl,rfl⟩
  ·have bm:decide ((r0:Int) > (M:Int))=false:=DEF zq4
   go_wp2_with fail
   go_meet
   exact⟨rfl,rfl,rfl⟩
 case rest =>
 obtain⟨rfl,rfl,rfl⟩:=hcut;clear K em b0 b1;go_wp2
 go_loopw [20,21] (fun v20 v21 wr=>∃ (s r:Nat),s0<=s/\s<=r/\r<=r0/\v20 = .int .i64 (s:Int)/\v21 = .int .i64 (r:Int)/\Aside0 (s=s0 \/ ¬ cf (g (nn - s)) (g (s - 1))<0)/\Aside0 (r=r0\/cf (g (nn - r - 1)) (g r)<0)/\Aside0 (Below w.heap.size w wr)) (fun v20 v21 wr=>(intOf v21).toNat - (intOf v20).toNat)
 case atStart=>exact⟨s0,r0,by omega,by omega,by omega,rfl,rfl,⟨.inl rfl⟩,⟨.inl rfl⟩,⟨Below.refl _ _⟩⟩
 case round =>
  obtain⟨s,r,hs1,hsr,hr1,rfl,rfl,HI,HJ,HB⟩:=hrel
  by_cases ci:s<r
  ·obtain⟨h,hh⟩:∃ h:Nat,(s+r) / 2=h:=⟨_,rfl⟩
   have eh:((s:Int)+(r:Int)) / 2=(h:Int):=by omega
   have hih:s<=h:=by omega
   have hhj:h<r:=by omega
   obtain⟨z,hz⟩:∃ z:Nat,nn - 1 - h=z:=⟨_,rfl⟩
   have ez:((nn - 1:Nat):Int) - (h:Int)=(z:Int):=by omega
   have ez2:IntKind.i64.wrap (((nn - 1:Nat):Int) - (h:Int))=(z:Int):=by rw[IntKind.wrap_i64];omega
   have HZ:=Hd hz;have HO:=Hd (HH.out.below HB.out);have hzn:z<n:=by omega
   have hpn:z<n:=by omega
   have hrn:h<n:=by omega
   obtain⟨X,hX⟩:∃ X,g z=X:=⟨_,rfl⟩
   obtain⟨Y,hY⟩:∃ Y,g h=Y:=⟨_,rfl⟩
   have hx:=fun j' u hc_=>HO.out.cell (i:=z) (j:=j') (u:=u) hpn hc_
   have hy:=fun j' u hc_=>HO.out.cell (i:=h) (j:=j') (u:=u) hrn hc_
   rw[hX] at hx;rw[hY] at hy;have x0:=hx 0 _ rfl;rw[Nat.add_zero] at x0;have x1:=hx 1 _ rfl;have y0:=hy 0 _ rfl;rw[Nat.add_zero] at y0;have y1:=hy 1 _ rfl;have CM:=Hd (fun (p:BelowOf wr)=>HC.out X Y p.W (hX ▸ HOK.out z hpn) (hY ▸ HOK.out h hrn) (Step.of_below (HB.out.trans (p.h.mono HB.out.size))));obtain⟨cv,hcv⟩:∃ cv,cf X Y=cv:=⟨_,rfl⟩
   rw[hcv] at CM;have HCV:=Hd (show cf (g z) (g h)=cv by rw[hX,hY];exact hcv);have x0':=fun p=>BelowOf.cell x0 p
   have x1':=fun p=>BelowOf.cell x1 p
   have y0':=fun p=>BelowOf.cell y0 p
   have y1':=fun p=>BelowOf.cell y1 p
   clear hx hy hX hY hcv;have l1:(h:Int)<(n:Int):=by omega
   have l2:(z:Int)<(n:Int):=by omega
   have hu:=Tryz.underlying85
   by_cases hc:cv<0
   ·have bc:decide (cv<0)=true:=DET hc
    clear hh hz hpn hrn;go_wp2;refine wp_region_quiet_below zq17 zq17 ?_
    repeat (go_big_quiet_step (exact below_calls (CM.out _)))
    refine wpQuiet_nil ?_;intro wq hw1;have HWQ:=Hd (show Below wr.heap.size wr wq by obtain⟨p,rfl⟩:=hw1;exact p.h);clear hw1;go_wp2;go_roundw
    case rel=>first | exact⟨s,h,by omega,by omega,by omega,rfl,rfl,⟨by have:=HI.out;omega⟩,⟨.inr zq38⟩,⟨HB.out.trans (HWQ.out.mono HB.out.size)⟩⟩ | exact⟨s,by omega,h,by omega,by omega,rfl,rfl,⟨by have:=HI.out;omega⟩,⟨.inr zq38⟩,⟨HB.out.trans (HWQ.out.mono HB.out.size)⟩⟩
    case measure=>simp[intOf];omega
   ·have bc:decide (cv<0)=false:=DEF hc
    clear hh hz hpn hrn;go_wp2;refine wp_region_quiet_below zq17 zq17 ?_
    repeat (go_big_quiet_step (exact below_calls (CM.out _)))
    refine wpQuiet_nil ?_;intro wq hw1;have HWQ:=Hd (show Below wr.heap.size wr wq by obtain⟨p,rfl⟩:=hw1;exact p.h);clear hw1;go_wp2;go_roundw
    case rel=>first | exact⟨h+1,r,by omega,by omega,by omega,by go_num,rfl,⟨.inr zq29⟩,⟨by have:=HJ.out;omega⟩,⟨HB.out.trans (HWQ.out.mono HB.out.size)⟩⟩ | exact⟨h+1,by omega,r,by omega,by omega,by go_num,rfl,⟨.inr zq29⟩,⟨by have:=HJ.out;omega⟩,⟨HB.out.trans (HWQ.out.mono HB.out.size)⟩⟩
    case measure=>simp[intOf];omega
  ·obtain rfl:s=r:=by omega
   have HO:=Hd (HH.out.below HB.out);obtain⟨en,hen⟩:∃ en:Nat,nn - s=en:=⟨_,rfl⟩
   have ee:(nn:Int) - (s:Int)=(en:Int):=by omega
   have HNE:=Hd (show M+m - s=en by omega);have CUT:=Hd (show Cut cf g a m b s from by
    have hM:=HM.out;refine⟨by omega,by omega,by omega,by omega,?_,?_⟩
    ·rw[hM,hnn]
     rcases HI.out with e | e
     ·rcases hK.2.2.2.2.2.1 with e2 | e2
      ·exact .inl zq4
      ·exact .inr (.inl zq4)
     ·exact .inr (.inr zq4)
    ·rw[hM,hnn]
     rcases HJ.out with e | e
     ·rcases hK.2.2.2.2.2.2 with e2 | e2
      ·exact .inl zq4
      ·exact .inr (.inl zq4)
     ·exact .inr (.inr e))
   have BND:=Hd (show a<=s/\s<=m/\s<=M/\m<=en/\en<=b/\a<=M/\M<=b/\M<=en by omega);clear HI HJ hnn hs1 hr1 hsr ci
   go_upto_if 185 with (refine stopC (n:=185) ?_;intro J hJ)
   refine Met.intro (hJ _ _ ?_)
   go_cut [] (fun wx=>∃ g1,Aside0 (Holds enc 2 wx blk 85 n g1)/\Aside0 (Turned g g1 s m en)/\Aside0 (Step (OnlyB blk) (OnlyB blk) w wx)/\Aside0 ((row g1 n).Perm (row g n)))
   case first =>
    by_cases c:s<m/\m<en
    ·have bA:decide ((s:Int)<(m:Int))=true:=DET zq4;have bB:decide ((m:Int)<(en:Int))=true:=DET zq4
     go_wp2_with (first | (go_at_call 193;(with_reducible refine (rotate_calls blk cap n g fn #[] s m en _ HO.out ?ra ?rb ?rc hn).mono ?_);(case ra=>have:=BND.out;omega);(case rb=>have:=BND.out;omega);(case rc=>have:=BND.out;omega);rintro e w1 ⟨rfl,g1,k1,k2,k3,k4⟩;have O1:=Hd k1;have T1:=Hd k2;have S1:=Hd ((Step.of_below (S:=OnlyB blk) HB.out).trans k3);have P1:=Hd k4;clear k1 k2 k3 k4))
     go_meet
     exact⟨g1,⟨O1.out⟩,⟨T1.out⟩,⟨S1.out⟩,⟨P1.out⟩⟩
    ·have T1:=Hd (show Turned g g s m en from turned_none (by have:=BND.out;omega) BND.out.2.1 BND.out.2.2.2.1)
     go_wp2_with fail
     all_goals (go_meet;exact⟨g,⟨HO.out⟩,⟨T1.out⟩,⟨Step.of_below HB.out⟩,⟨List.Perm.refl _⟩⟩)
   case rest =>
   obtain⟨g1,O1,T1,S1,P1⟩:=hcut;have CH:=Hd (cut_halves o H1.out H2.out CUT.out zq14);rw[HM.out,HNE.out] at CH;have SG1:=Hd ((turned_same T1.out BND.out.2.1 BND.out.2.2.2.1).wide BND.out.1 BND.out.2.2.2.2.1);have OK1:=Hd (fun q (hq:q<n)=>same_ok HOK.out SG1.out BN.out hq)
   go_upto_if 199 with (refine stopC (n:=199) ?_;intro J hJ)
   refine Met.intro (hJ _ _ ?_)
   go_cut [] (fun wx=>∃ g2,Aside0 (Holds enc 2 wx blk 85 n g2)/\Aside0 (Up cf g2 a M)/\Aside0 (SameOn g1 g2 a M)/\Aside0 (Step (OnlyB blk) (OnlyB blk) w wx)/\Aside0 ((row g2 n).Perm (row g n)))
   case first =>
    by_cases c:a<s/\s<M
    ·have bA:decide ((a:Int)<(s:Int))=true:=DET zq4;have bB:decide ((s:Int)<(M:Int))=true:=DET zq4
     go_wp2_with (first | (go_at_call 189;(with_reducible refine (IH g1 a s M _ ?la ?lb ?lc ?ld O1.out OK1.out CH.out.1 CH.out.2.1 (fun x y w9 hx hy hs=>HC.out x y w9 hx hy (S1.out.trans hs))).mono ?_);(case la=>have:=BND.out;omega);(case lb=>have:=BND.out;omega);(case lc=>have:=BND.out;omega);(case ld=>have:=BND.out;omega);rintro e w2 ⟨rfl,g2,k1,k2,k3,k4,k5⟩;have O2:=Hd k1;have U2:=Hd k2;have G2:=Hd k3;have S2:=Hd (S1.out.trans k4);have P2:=Hd (k5.trans P1.out);clear k1 k2 k3 k4 k5))
     go_meet
     exact⟨g2,⟨O2.out⟩,⟨U2.out⟩,⟨G2.out⟩,⟨S2.out⟩,⟨P2.out⟩⟩
    ·have U2:=Hd (up_empty CH.out.1 CH.out.2.1 c BND.out.1 BND.out.2.2.1)
     go_wp2_with fail
     all_goals (go_meet;exact⟨g1,⟨O1.out⟩,⟨U2.out⟩,⟨SameOn.refl _ _ _⟩,⟨S1.out⟩,⟨P1.out⟩⟩)
   case rest =>
   obtain⟨g2,O2,U2,G2,S2,P2⟩:=hcut;have E1:=Hd (CH.out.2.2.1.congr fun k k1 _=>G2.out.1 k (.inr k1));have E2:=Hd (CH.out.2.2.2.1.congr fun k k1 _=>G2.out.1 k (.inr (Nat.le_trans BND.out.2.2.2.2.2.2.2 k1)));have OK2:=Hd (fun q (hq:q<n)=>same_ok OK1.out (G2.out.wide (Nat.le_refl _) BND.out.2.2.2.2.2.2.1) BN.out hq)
   by_cases c:M<en/\en<b
   ·have bA:decide ((M:Int)<(en:Int))=true:=DET zq4;have bB:decide ((en:Int)<(b:Int))=true:=DET zq4
    go_wp2_with (first | (go_at_call 189;(with_reducible refine (IH g2 M en b _ ?ga ?gb ?gc ?gd O2.out OK2.out E1.out E2.out (fun x y w9 hx hy hs=>HC.out x y w9 hx hy (S2.out.trans hs))).mono ?_);(case ga=>have:=BND.out;omega);(case gb=>have:=BND.out;omega);(case gc=>have:=BND.out;omega);(case gd=>have:=BND.out;omega);rintro e w3 ⟨rfl,g3,k1,k2,k3,k4,k5⟩;have O3:=Hd k1;have U3:=Hd k2;have G3:=Hd k3;have S3:=Hd (S2.out.trans k4);have P3:=Hd (k5.trans P2.out);clear k1 k2 k3 k4 k5))
    go_end0
    exact⟨rfl,g3,O3.out,halves_up BND.out.2.2.2.2.2.1 BND.out.2.2.2.2.2.2.1 G2.out G3.out U2.out U3.out CH.out.2.2.2.2,(SG1.out.trans (G2.out.wide (Nat.le_refl _) BND.out.2.2.2.2.2.2.1)).trans (G3.out.wide BND.out.2.2.2.2.2.1 (Nat.le_refl _)),S3.out,P3.out⟩
   ·have U3:=Hd (up_empty E1.out E2.out c BND.out.2.2.2.2.2.2.2 BND.out.2.2.2.2.1)
    go_wp2_with fail
    all_goals (go_end0;exact⟨rfl,g2,O2.out,halves_up BND.out.2.2.2.2.2.1 BND.out.2.2.2.2.2.2.1 G2.out (SameOn.refl g2 M b) U2.out U3.out CH.out.2.2.2.2,SG1.out.trans (G2.out.wide (Nat.le_refl _) BND.out.2.2.2.2.2.2.1),S2.out,P2.out⟩)
theorem sym_calls (cf:El->El->Int) (o:Ord cf) (OK:El->Prop) (blk cap n:Nat) (fn:Nat) (hn:n<=17592186044416) (hfn:∀ args w,(callFunc fn args).run Tryz.prog w = .ok (.enter fn args) w):∀ (Q:Nat) (g:Nat->El) (a m b:Nat) (w:World),b - a<=Q->a<m->m<b->b<=n->Holds enc 2 w blk 85 n g->(∀ i,i<n->OK (g i))->Up cf g a m->Up cf g m b->(∀ (x y:El) (w1:World),OK x->OK y->Step (OnlyB blk) (OnlyB blk) w w1->Calls Tryz.prog fn #[.agg #[.int .i64 x.at',.int .i64 x.net],.agg #[.int .i64 y.at',.int .i64 y.net]] w1 fun e w'=>e = .returned (.int .i64 (cf x y))/\Below w1.heap.size w1 w') ->
  Calls Tryz.prog 189 #[.slice (some ⟨blk,0,none⟩) n cap,.int .i64 (a:Int),.int .i64 (m:Int),.int .i64 (b:Int),.func (.func fn) #[] #[]] w fun e w'=>e = .returned (.tuple #[]) /\ ∃ g',Holds enc 2 w' blk 85 n g'/\Up cf g' a b/\SameOn g g' a b/\Step (OnlyB blk) (OnlyB blk) w w'/\(row g' n).Perm (row g n)
 | 0,g,a,m,b,w,h,h1,h2,_,_,_,_,_,_=>by omega
 | Q+1,g,a,m,b,w,h,h1,h2,hb,hH,hok,u1,u2,hcmp=>by
  by_cases c1:a+1=m
  ·exact symA_calls cf o OK blk cap n fn hn hfn g a m b w hH hok c1 h2 hb u2 hcmp
  ·by_cases c2:m+1=b
   ·exact symB_calls cf o OK blk cap n fn hn hfn g a m b w hH hok zq4 c2 hb u1 hcmp
   ·exact symC_calls cf o OK blk cap n fn hn hfn g a m b w hH hok zq4 zq4 hb u1 u2 (fun g' a' m' b' w' k1 k2 k3 k4 k5 k6 k7 k8 k9=>sym_calls cf o OK blk cap n fn hn hfn Q g' a' m' b' w' zq4 k2 k3 k4 k5 k6 k7 k8 k9) hcmp
theorem dvd_gap {d a c:Nat} (h1:d ∣ a) (h2:d ∣ c) (h:c<a):c+d<=a:=by
 obtain⟨x,rfl⟩:=h1;obtain⟨y,rfl⟩:=h2;have:y<x:=Nat.lt_of_mul_lt_mul_left h;have:=Nat.mul_le_mul_left d this;rw[Nat.mul_succ] at this;exact this
def Bl (cf:El->El->Int) (g:Nat->El) (s n:Nat):Prop := ∀ a,s ∣ a->Up cf g a (min (a+s) n)
theorem stable_calls (cf:El->El->Int) (o:Ord cf) (OK:El->Prop) (blk cap n:Nat) (fn:Nat) (hn:n<=17592186044416) (hfn:∀ args w,(callFunc fn args).run Tryz.prog w = .ok (.enter fn args) w) (g:Nat->El) (w:World) (hH:Holds enc 2 w blk 85 n g) (hok:∀ i,i<n->OK (g i))
  (hcmp:∀ (x y:El) (w1:World),OK x->OK y->Step (OnlyB blk) (OnlyB blk) w w1->Calls Tryz.prog fn #[.agg #[.int .i64 x.at',.int .i64 x.net],.agg #[.int .i64 y.at',.int .i64 y.net]] w1 fun e w'=>e = .returned (.int .i64 (cf x y))/\Below w1.heap.size w1 w') :
  Calls Tryz.prog 169 #[.slice (some ⟨blk,0,none⟩) n cap,.int .i64 (n:Int),.func (.func fn) #[] #[]] w fun e w'=>e = .returned (.tuple #[]) /\ ∃ g',Holds enc 2 w' blk 85 n g'/\Up cf g' 0 n/\SameOn g g' 0 n/\Step (OnlyB blk) (OnlyB blk) w w'/\(row g' n).Perm (row g n):=by
 have HH:=Hd hH;have HOK:=Hd hok;have HC:=Hd hcmp;clear hH hok hcmp;go_enter Tryz.func169,Tryz.ntmps169;go_wp2
 go_loopw [7,8] (fun v7 v8 wr=>∃ (a:Nat) (g':Nat->El),a<=n/\20 ∣ a/\v7 = .int .i64 (a:Int)/\v8 = .int .i64 ((a+20:Nat):Int)/\Aside0 (∀ c,20 ∣ c->c<a->Up cf g' c (c+20))/\Aside0 (SameOn g g' 0 n)/\Aside0 (Holds enc 2 wr blk 85 n g')/\Aside0 (Step (OnlyB blk) (OnlyB blk) w wr)/\Aside0 ((row g' n).Perm (row g n))) (fun v7 v8 wr=>n - (intOf v7).toNat)
 case atStart=>exact⟨0,g,by omega,by omega,rfl,by simp,⟨fun c _ h=>absurd h (Nat.not_lt_zero c)⟩,⟨SameOn.refl _ _ _⟩,⟨HH.out⟩,⟨Step.refl _ _⟩,⟨List.Perm.refl _⟩⟩
 case round =>
  obtain⟨a,g',ha,h20,rfl,rfl,HU,HSM,HO,HS,HP⟩:=hrel;have OK1:=Hd (fun q (hq:q<n)=>same_ok HOK.out HSM.out (Nat.le_refl n) hq);obtain⟨b,hb⟩:∃ b,a+20=b:=⟨_,rfl⟩
  rw[hb]
  by_cases c1:b<=n
  ·have bl:decide ((b:Int)<=(n:Int))=true:=DET zq4
   go_wp2_with (go_at_call 188;(with_reducible refine (insertion_calls cf o OK blk cap n g' fn a b _ HO.out OK1.out ?ia ?ib hn hfn (fun x y w9 hx hy hs=>HC.out x y w9 hx hy (HS.out.trans hs))).mono ?_);(case ia=>omega);(case ib=>omega);rintro e w1 ⟨rfl,g2,k1,k2,k3,k4,k5⟩;have HO2:=Hd k1;have U2:=Hd k2;have G2:=Hd k3;have S2:=Hd (HS.out.trans k4);have P2:=Hd (k5.trans HP.out);clear k1 k2 k3 k4 k5)
   go_roundw
   case rel =>
    refine⟨b,g2,by omega,by omega,rfl,by simp,⟨fun c h1 h2=>?_⟩,⟨HSM.out.trans (G2.out.wide (Nat.zero_le _) c1)⟩,⟨HO2.out⟩,⟨S2.out⟩,⟨P2.out⟩⟩
    by_cases h3:c<a
    ·exact (HU.out c h1 h3).congr fun q _ h4=>G2.out.1 q (.inl zq4)
    ·have h5:c=a:=by omega
     rw[h5,hb];exact U2.out
   case measure=>simp[intOf];omega
  ·have bl:decide ((b:Int)<=(n:Int))=false:=DEF zq4
   go_wp2_with (go_at_call 188;(with_reducible refine (insertion_calls cf o OK blk cap n g' fn a n _ HO.out OK1.out ?ja ?jb hn hfn (fun x y w9 hx hy hs=>HC.out x y w9 hx hy (HS.out.trans hs))).mono ?_);(case ja=>omega);(case jb=>omega);rintro e w1 ⟨rfl,g2,k1,k2,k3,k4,k5⟩;have HO2:=Hd k1;have U2:=Hd k2;have G2:=Hd k3;have S2:=Hd (HS.out.trans k4);have P2:=Hd (k5.trans HP.out);clear k1 k2 k3 k4 k5)
   have HBL:=Hd (show Bl cf g2 20 n from fun c h1=>by
    by_cases h3:c<a
    ·have h4:=(HU.out c h1 h3).congr fun q _ h4=>G2.out.1 q (.inl zq4)
     rw[Nat.min_eq_left zq4];exact h4
    ·by_cases h5:c=a
     ·rw[h5,Nat.min_eq_right zq4];exact U2.out
     ·exact Up.one cf g2 _ _ zq4)
   have HSM2:=Hd (HSM.out.trans (G2.out.wide (Nat.zero_le _) (Nat.le_refl _)));clear HU HSM HO HS HP OK1 U2 G2
   go_loopw [6,7,8,9] (fun v6 v7 v8 v9 wr=>∃ (s:Nat) (g':Nat->El),0<s/\s<=2*n+20/\v6 = .int .i64 (s:Int)/\Aside0 (Bl cf g' s n)/\Aside0 (SameOn g g' 0 n)/\Aside0 (Holds enc 2 wr blk 85 n g')/\Aside0 (Step (OnlyB blk) (OnlyB blk) w wr)/\Aside0 ((row g' n).Perm (row g n))) (fun v6 v7 v8 v9 wr=>n - (intOf v6).toNat)
   case atStart=>exact⟨20,g2,by omega,by omega,rfl,⟨HBL.out⟩,⟨HSM2.out⟩,⟨HO2.out⟩,⟨S2.out⟩,⟨P2.out⟩⟩
   case round =>
    obtain⟨s,g3,hs0,hs1,rfl,HB,HSM,HO,HS,HP⟩:=hrel
    by_cases c2:s<n
    ·have bs:decide ((s:Int)<(n:Int))=true:=DET zq4
     obtain⟨t,ht⟩:∃ t:Nat,2*s=t:=⟨_,rfl⟩
     have et:2*(s:Int)=(t:Int):=by omega
     have et2:(s:Int)*2=(t:Int):=by omega
     have hst:s ∣ t:=⟨2,by omega⟩
     go_wp2
     go_loopw [7,8] (fun v7 v8 wr=>∃ (a:Nat) (g':Nat->El),a<=n/\t ∣ a/\v7 = .int .i64 (a:Int)/\v8 = .int .i64 ((a+t:Nat):Int)/\Aside0 (∀ c,t ∣ c->c<a->Up cf g' c (c+t))/\Aside0 (∀ c,s ∣ c->a<=c->Up cf g' c (min (c+s) n))/\Aside0 (SameOn g g' 0 n)/\Aside0 (Holds enc 2 wr blk 85 n g')/\Aside0 (Step (OnlyB blk) (OnlyB blk) w wr)/\Aside0 ((row g' n).Perm (row g n))) (fun v7 v8 wr=>n - (intOf v7).toNat)
     case atStart=>exact⟨0,g3,by omega,⟨0,rfl⟩,rfl,by simp,⟨fun c _ h=>absurd h (Nat.not_lt_zero c)⟩,⟨fun c h _=>HB.out c h⟩,⟨HSM.out⟩,⟨HO.out⟩,⟨HS.out⟩,⟨HP.out⟩⟩
     case round =>
      clear HB HSM HO HS HP;obtain⟨x,g',hx,hdx,rfl,rfl,HU,HV,HSM,HO,HS,HP⟩:=hrel;have OK1:=Hd (fun q (hq:q<n)=>same_ok HOK.out HSM.out (Nat.le_refl n) hq);obtain⟨y,hy⟩:∃ y,x+t=y:=⟨_,rfl⟩
      obtain⟨m,hm⟩:∃ m,x+s=m:=⟨_,rfl⟩
      rw[hy];have em:(x:Int)+(s:Int)=(m:Int):=by omega
      obtain⟨z,hz⟩:∃ z,y+t=z:=⟨_,rfl⟩
      have ey:(y:Int)+(t:Int)=(z:Int):=by omega
      have ey2:IntKind.i64.wrap ((y:Int)+(t:Int))=(z:Int):=by rw[IntKind.wrap_i64];omega
      have hsx:s ∣ x:=Nat.dvd_trans hst hdx;have hsm:s ∣ m:=by rw[<- hm];exact (Nat.dvd_add_right hsx).2 (Nat.dvd_refl s)
      by_cases c3:y<=n
      ·have bl:decide ((y:Int)<=(n:Int))=true:=DET zq4
       have UA:=Hd (show Up cf g' x m by have h:=HV.out x hsx (Nat.le_refl _);rw[hm,Nat.min_eq_left zq4] at h;exact h);have UB:=Hd (show Up cf g' m y by have h:=HV.out m hsm zq4;rw[show m+s=y by omega,Nat.min_eq_left c3] at h;exact h)
       go_wp2_with (go_at_call 189;(with_reducible refine (sym_calls cf o OK blk cap n fn hn hfn (y - x) g' x m y _ (Nat.le_refl _) ?ma ?mb ?mc HO.out OK1.out UA.out UB.out (fun x y w9 hx hy hs=>HC.out x y w9 hx hy (HS.out.trans hs))).mono ?_);(case ma=>omega);(case mb=>omega);(case mc=>omega);rintro e w1 ⟨rfl,g2,k1,k2,k3,k4,k5⟩;have HO2:=Hd k1;have U2:=Hd k2;have G2:=Hd k3;have S2:=Hd (HS.out.trans k4);have P2:=Hd (k5.trans HP.out);clear k1 k2 k3 k4 k5)
       go_roundw
       case rel =>
        refine⟨y,g2,c3,by rw[<- hy];exact (Nat.dvd_add_right hdx).2 (Nat.dvd_refl t),rfl,by rw[hz],⟨fun c h1 h2=>?_⟩,⟨fun c h1 h2=>?_⟩,⟨HSM.out.trans (G2.out.wide (Nat.zero_le _) c3)⟩,⟨HO2.out⟩,⟨S2.out⟩,⟨P2.out⟩⟩
        ·by_cases h3:c<x
         ·have h4:=dvd_gap hdx h1 h3
          exact (HU.out c h1 h3).congr fun q _ h5=>G2.out.1 q (.inl zq4)
         ·have h5:c=x:=by
           rcases Nat.lt_or_ge x c with h6 | h6
           ·have:=dvd_gap h1 hdx h6;omega
           ·omega
          rw[h5,hy];exact U2.out
        ·exact (HV.out c h1 zq4).congr fun q h5 _=>G2.out.1 q (.inr zq4)
       case measure=>simp[intOf];omega
      ·have bl:decide ((y:Int)<=(n:Int))=false:=DEF zq4
       have fin:∀ g4:Nat->El,(∀ q,q<x->g4 q=g' q)->Up cf g4 x n->Bl cf g4 t n:=fun g4 h6 h7 c h1=>by
        by_cases h3:c<x
        ·have h4:=dvd_gap hdx h1 h3
         rw[Nat.min_eq_left zq4];exact (HU.out c h1 h3).congr fun q _ h5=>h6 q zq4
        ·by_cases h5:c=x
         ·rw[h5,Nat.min_eq_right zq4];exact h7
         ·have:=dvd_gap h1 hdx zq4
          exact Up.one cf g4 _ _ zq4
       have FIN:=Hd fin;clear fin
       by_cases c4:m<n
       ·have bm:decide ((m:Int)<(n:Int))=true:=DET zq4
        have UA:=Hd (show Up cf g' x m by have h:=HV.out x hsx (Nat.le_refl _);rw[hm,Nat.min_eq_left zq4] at h;exact h);have UB:=Hd (show Up cf g' m n by have h:=HV.out m hsm zq4;rw[Nat.min_eq_right zq4] at h;exact h)
        go_wp2_with (go_at_call 189;(with_reducible refine (sym_calls cf o OK blk cap n fn hn hfn (n - x) g' x m n _ (Nat.le_refl _) ?na ?nb ?nc HO.out OK1.out UA.out UB.out (fun x y w9 hx hy hs=>HC.out x y w9 hx hy (HS.out.trans hs))).mono ?_);(case na=>omega);(case nb=>omega);(case nc=>omega);rintro e w1 ⟨rfl,g2,k1,k2,k3,k4,k5⟩;have HO2:=Hd k1;have U2:=Hd k2;have G2:=Hd k3;have S2:=Hd (HS.out.trans k4);have P2:=Hd (k5.trans HP.out);clear k1 k2 k3 k4 k5)
        go_roundw
        case rel=>exact⟨t,g2,by omega,by omega,rfl,⟨FIN.out g2 (fun q h=>G2.out.1 q (.inl h)) U2.out⟩,⟨HSM.out.trans (G2.out.wide (Nat.zero_le _) (Nat.le_refl _))⟩,⟨HO2.out⟩,⟨S2.out⟩,⟨P2.out⟩⟩
        case measure=>simp[intOf];omega
       ·have bm:decide ((m:Int)<(n:Int))=false:=DEF zq4
        have UA:=Hd (show Up cf g' x n by have h:=HV.out x hsx (Nat.le_refl _);rw[hm,Nat.min_eq_right zq4] at h;exact h);go_wp2;go_roundw
        case rel=>exact⟨t,g',by omega,by omega,rfl,⟨FIN.out g' (fun q _=>rfl) UA.out⟩,⟨HSM.out⟩,⟨HO.out⟩,⟨HS.out⟩,⟨HP.out⟩⟩
        case measure=>simp[intOf];omega
    ·have bs:decide ((s:Int)<(n:Int))=false:=DEF zq4
     have HU:=Hd (show Up cf g3 0 n by
      have h:=HB.out 0 ⟨0,rfl⟩;rw[Nat.min_eq_right zq4] at h;exact h)
     go_wp2
     go_end0
     exact⟨rfl,g3,HO.out,HU.out,HSM.out,HS.out,HP.out⟩
theorem sort_calls (cf:El->El->Int) (o:Ord cf) (OK:El->Prop) (blk cap n:Nat) (fn:Nat) (hn:n<=17592186044416) (hfn:∀ args w,(callFunc fn args).run Tryz.prog w = .ok (.enter fn args) w) (g:Nat->El) (w:World) (hH:Holds enc 2 w blk 85 n g) (hok:∀ i,i<n->OK (g i))
  (hcmp:∀ (x y:El) (w1:World),OK x->OK y->Step (OnlyB blk) (OnlyB blk) w w1->Calls Tryz.prog fn #[.agg #[.int .i64 x.at',.int .i64 x.net],.agg #[.int .i64 y.at',.int .i64 y.net]] w1 fun e w'=>e = .returned (.int .i64 (cf x y))/\Below w1.heap.size w1 w') :
  Calls Tryz.prog 152 #[.slice (some ⟨blk,0,none⟩) n cap,.func (.func fn) #[] #[]] w fun e w'=>e = .returned (.tuple #[]) /\ ∃ g',Holds enc 2 w' blk 85 n g'/\Up cf g' 0 n/\SameOn g g' 0 n/\Step (OnlyB blk) (OnlyB blk) w w'/\(row g' n).Perm (row g n):=by
 have SC:=Hd (stable_calls cf o OK blk cap n fn hn hfn g w hH hok hcmp);clear hH hok hcmp;go_enter Tryz.func152,Tryz.ntmps152
 go_wp2_with ((with_reducible refine SC.out.mono ?_);rintro e w1 ⟨rfl,g2,k1,k2,k3,k4,k5⟩;have HO2:=Hd k1;have U2:=Hd k2;have G2:=Hd k3;have S2:=Hd k4;have P2:=Hd k5;clear k1 k2 k3 k4 k5)
 go_end0
 exact⟨rfl,g2,HO2.out,U2.out,G2.out,S2.out,P2.out⟩
end Go.Proofs.YtmkgecapkeojaaaGreat.SortJ
end
section
namespace Go.Proofs.YtmkgecapkeojaaaGreat.SortJ
open Go RowKit YtmkgecapkeojaaaGreatW.PrintWords YtmkgecapkeojaaaGreatW.PrintLast YtmkgecapkeojaaaGreatW.PrintMore
theorem insertion_nil (c fn:Nat) (w:World):Calls Tryz.prog 188 #[.slice none 0 c,.int .i64 0,.int .i64 0,.func (.func fn) #[] #[]] w fun e w'=>e = .returned (.tuple #[])/\w'=w:=by
 go_enter Tryz.func188,Tryz.ntmps188;go_wp2
 go_loopw [8] (fun v8 wr=>v8 = .int .i64 1/\Aside0 (wr=w)) (fun v8 wr=>0)
 case atStart=>exact⟨rfl,⟨rfl⟩⟩
 case round =>
  obtain⟨rfl,HW⟩:=hrel;go_wp2
  go_end0
  exact⟨rfl,HW.out⟩
theorem stable_nil (c fn:Nat) (w:World):Calls Tryz.prog 169 #[.slice none 0 c,.int .i64 0,.func (.func fn) #[] #[]] w fun e w'=>e = .returned (.tuple #[])/\w'=w:=by
 go_enter Tryz.func169,Tryz.ntmps169;go_wp2
 go_loopw [7,8] (fun v7 v8 wr=>v7 = .int .i64 0/\v8 = .int .i64 20/\Aside0 (wr=w)) (fun v7 v8 wr=>0)
 case atStart=>exact⟨rfl,rfl,⟨rfl⟩⟩
 case round =>
  obtain⟨rfl,rfl,HW⟩:=hrel
  go_wp2_with (go_at_call 188;(with_reducible refine (insertion_nil c fn _).mono ?_);rintro e w1 ⟨rfl,h1⟩;have HW1:=Hd (h1.trans HW.out);clear h1)
  go_loopw [6] (fun v6 wr=>v6 = .int .i64 20/\Aside0 (wr=w)) (fun v6 wr=>0)
  case atStart=>exact⟨rfl,⟨HW1.out⟩⟩
  case round =>
   obtain⟨rfl,HW2⟩:=hrel;go_wp2
   go_end0
   exact⟨rfl,HW2.out⟩
theorem sort_nil (c fn:Nat) (w:World):Calls Tryz.prog 152 #[.slice none 0 c,.func (.func fn) #[] #[]] w fun e w'=>e = .returned (.tuple #[])/\w'=w:=by
 go_enter Tryz.func152,Tryz.ntmps152
 go_wp2_with (go_at_call 169;(with_reducible refine (stable_nil c fn _).mono ?_);rintro e w1 ⟨rfl,rfl⟩)
 go_end0
 exact⟨rfl,rfl⟩
end Go.Proofs.YtmkgecapkeojaaaGreat.SortJ
end
section
namespace Go.Proofs.YtmkgecapkeojaaaGreat.Stp
open PDa
open RowKit YtmkgecapkeojaaaGreatW.PrintWords YtmkgecapkeojaaaGreatW.PrintLast YtmkgecapkeojaaaGreatW.PrintMore
open SortP SortM
abbrev Jp:=S85
abbrev kJ:=k85
def emit (at' s:Int):List Jp:=if s ≠ 0/\at'<1125899906842624 then [⟨at',s⟩] else []
def grpAt (at' s:Int):List Jp->List Jp
 | []=>emit at' s
 | y :: ys=>if y.f0=at' then grpAt at' (s+y.f1) ys else emit at' s ++ grpAt y.f0 y.f1 ys
def grp:List Jp->List Jp
 | []=>[]
 | x :: xs=>grpAt x.f0 x.f1 xs
def cellsJ (l:List Jp):List Value:=l.flatMap fun x=>[.int .i64 x.f0,.int .i64 x.f1]
theorem cellsJ_len (l:List Jp):(cellsJ l).length=l.length*2:=by
 induction l with
 | nil=>rfl
 | cons x xs ih=>simp only[cellsJ,List.flatMap_cons,List.length_append,List.length_cons,List.length_nil] at ih ⊢;omega
theorem cellsJ_at:∀ (l:List Jp) (j:Nat) (p:Jp),l[j]? = some p->((cellsJ l).drop (j*2)).take 2=[.int .i64 p.f0,.int .i64 p.f1]
 | [],j,p,h=>by simp at h
 | x :: xs,0,p,h=>by
  have:x=p:=by simpa using h
  subst this;simp[cellsJ]
 | x :: xs,j+1,p,h=>by
  have:=cellsJ_at xs j p (by simpa using h);rw[show (j+1)*2=2+j*2 by omega, <- List.drop_drop]
  simpa [cellsJ] using this
theorem R_of_cells {W:World} {base:Nat} {v:Value} {xs:List Jp} (h:W.ownsRow base 85 2 v xs.length (cellsJ xs)):Kd.R kJ 85 W base (fun _=>True) v xs :=
 ⟨fun _ _=>trivial,cellsJ xs,h,cellsJ_len xs,fun j p hp=>by
  show k85.M W base _ p (((cellsJ xs).drop (j*2)).take 2)
  rw[cellsJ_at xs j p hp];exact k85_mkM _ _ _ _⟩
def elJ (x:Jp):SortJ.El:=⟨x.f0,x.f1⟩
def jpE (x:SortJ.El):Jp:=⟨x.at',x.net⟩
theorem holds_of_R {W:World} {base:Nat} {ok:Nat->Prop} {v:Value} {xs:List Jp} (h:Kd.R kJ 85 W base ok v xs) (hn:0<xs.length) :
  ∃ g cap,v = .slice (some ⟨g,0,none⟩) xs.length cap/\base<=g/\Holds SortJ.enc 2 W g 85 xs.length (fun i=>elJ (xs.getD i z85)):=by
 obtain⟨_,inner,ho,hr⟩:=h
 rcases ho.2 with ⟨_,h0⟩ | ⟨g,cap,cur,rfl,hg,hh,h1,h2,h3,h4⟩
 ·omega
 ·refine⟨g,cap,rfl,hg,cur,hh,?_,fun i j u hi hu=>?_⟩
  ·rw[h3];exact Nat.mul_le_mul_right 2 h1
  ·have hx:xs[i]? = some (xs.getD i z85):=by rw[List.getD_eq_getElem?_getD,List.getElem?_eq_getElem hi];rfl
   have e:=k85_openM (hr.2 i _ hx);have hj:j<2:=(List.getElem?_eq_some_iff.1 hu).1;have e2:inner[i*2+j]? = some u:=by
    have e3:((inner.drop (i*2)).take 2)[j]? = some u:=by rw[show kJ.sz=2 from rfl] at e;rw[e];exact hu
    rw[List.getElem?_take_of_lt hj,List.getElem?_drop] at e3;exact e3
   rw[<- h4] at e2;rw[List.getElem?_take_of_lt (by have:=(List.getElem?_eq_some_iff.1 e2).1;simp at this;omega),Array.getElem?_toList] at e2;exact e2
def mayL (last:Int):List Jp->Bool
 | []=>true
 | x :: xs=>decide (last<x.f0) && decide (x.f0<1125899906842624) && decide (x.f1 ≠ 0) && fairB x.f1 && mayL x.f0 xs
def mayJ (l:List Jp):Bool:=decide (l.length<=1024) && mayL (-2) l
theorem may_l0 (l:List Jp) (hl:l.length<=1024):∀ (m i k:Nat) (last:Int),l.length - i=m->i<=l.length->m<k->step_May.l0 k last l (l.length:Int) (i:Int)=some (mayL last (l.drop i))
 | m,i,0,last,hm,hi,hk=>by omega
 | m,i,k+1,last,hm,hi,hk=>by
  unfold step_May.l0
  by_cases h:i<l.length
  ·have hrd:rd_T85 l (i:Int)=l[i]:=by
    unfold rd_T85;simp[h]
   rw[if_pos zq4,if_pos zq4,if_pos zq4,hrd,fair_f,List.drop_eq_getElem_cons h];have hw:wrap64 ((i:Int)+1)=((i+1:Nat):Int):=by unfold wrap64;omega
   rw[hw,Option.bind_some,may_l0 l hl (m - 1) (i+1) k _ zq4 zq4 zq4];generalize l[i]=x;rw[mayL]
   by_cases h1:x.f0<=last
   ·rw[if_pos h1];simp[show ¬ last<x.f0 by omega]
   ·rw[if_neg h1]
    by_cases h2:x.f0 >= 1125899906842624
    ·rw[if_pos h2];simp[show ¬ x.f0<1125899906842624 by omega]
    ·rw[if_neg h2]
     by_cases h3:x.f1=0
     ·rw[if_pos h3];simp[h3]
     ·rw[if_neg h3]
      by_cases h4:fairB x.f1=true
      ·rw[if_pos h4];simp[h3,h4,show last<x.f0 by omega,show x.f0<1125899906842624 by omega]
      ·rw[if_neg h4];simp[h3,show fairB x.f1=false by simpa using h4]
  ·rw[if_neg zq4,List.drop_eq_nil_of_le zq4]
   rfl
theorem may_f (l:List Jp):step_May.f (l.length+1) l=some (mayJ l):=by
 unfold step_May.f mayJ
 by_cases h:l.length<=1024
 ·have e:=may_l0 l h l.length 0 (l.length+1) (-2) zq4 zq4 zq4
  rw[if_neg zq4]
  simpa [h] using e
 ·rw[if_pos zq4]
  simp[h]
def toldJ (l:List Jp):List Jp × Int:=if mayJ l=true then (l,0) else ([],7)
theorem told_f (l:List Jp):step_told.f (l.length+1) l=some ((toldJ l).1,(toldJ l).2):=by
 unfold step_told.f toldJ;rw[may_f,Option.bind_some]
 split <;> rfl
end Go.Proofs.YtmkgecapkeojaaaGreat.Stp
end
section
namespace Go.Proofs.YtmkgecapkeojaaaGreat.Run
open Go RowKit
def OwnS (B:Nat) (v:Value):Nat->Prop:=fun b=>b=B\/v.ownBlock=some b
theorem own_lt' {W:World} {n₀ e size k:Nat} {v:Value} {xs:List Value} (h:W.ownsRow n₀ e size v k xs) {b:Nat} (hb:v.ownBlock=some b):n₀<=b/\b<W.heap.size:=by
 rcases h.2 with ⟨rfl,_⟩ | ⟨g,cap,cur,rfl,hg,hh,_⟩
 ·simp[Value.ownBlock] at hb
 ·have:g=b:=by simpa [Value.ownBlock] using hb
  subst this;exact⟨hg,(Array.getElem?_eq_some_iff.1 hh).1⟩
theorem own_slice {W:World} {n₀ e size k:Nat} {v:Value} {xs:List Value} (h:W.ownsRow n₀ e size v k xs):∃ A c,v = .slice A k c:=by
 rcases h.2 with ⟨rfl,hk⟩ | ⟨g,cap,cur,rfl,_⟩
 ·exact⟨none,0,by rw[hk]⟩
 ·exact⟨_,_,rfl⟩
theorem Grow.boxed (B0 Bx:Nat) (t:TypeId) (v:Value):Grow B0 (fun W=>Boxed W Bx t v):=by
 refine⟨fun {W W'} h hb=>(hb.block Bx h.lt).trans h,fun {W l o} o' h hl ho hc=>(World.putObj_heap_other (fun e=>?_)).trans h⟩;subst e;have h':W.heap[Bx]? = some (.cells #[v] t (0,0)):=h;rw[h'] at ho;cases ho;cases hc
theorem Grow.blk (B0 Bx:Nat) (cs:Array Value) (t:TypeId) (o2:Nat × Nat):Grow B0 (fun W=>W.heap[Bx]? = some (.cells cs t o2)):=by
 refine⟨fun {W W'} h hb=>(hb.block Bx (Array.getElem?_eq_some_iff.1 h).1).trans h,fun {W l o} o' h hl ho hc=>(World.putObj_heap_other (fun e=>?_)).trans h⟩;subst e;rw[h] at ho;cases ho;cases hc
end Go.Proofs.YtmkgecapkeojaaaGreat.Run
end
section
namespace Go.Proofs.YtmkgecapkeojaaaGreat.Stp
open PDa
open RowKit YtmkgecapkeojaaaGreatW.PrintWords YtmkgecapkeojaaaGreatW.PrintLast YtmkgecapkeojaaaGreatW.PrintMore
open SortP SortM Run
theorem infoJump:(Tryz.prog.info? 85).map (fun i=>(i.zero,i.size,i.bytes))=some (some (.agg #[.int .i64 0,.int .i64 0]),2,16):=by kernel_rfl
def rowJ (g:Nat->SortJ.El) (n:Nat):List Jp:=(row g n).map jpE
theorem rowJ_len (g:Nat->SortJ.El) (n:Nat):(rowJ g n).length=n:=by simp[rowJ,row_len]
theorem rowJ_drop (g:Nat->SortJ.El) (n i:Nat) (h:i<n):(rowJ g n).drop i=jpE (g i) :: (rowJ g n).drop (i+1):=by
 rw[List.drop_eq_getElem_cons (by rw[rowJ_len];exact h)]
 congr 1
 simp[rowJ,row]
theorem icmp_ord:Ord (fun x y:SortJ.El=>Cmp.icmp x.at' y.at'):=by
 refine⟨fun x y h=>?_,fun x y z h1 h2=>?_⟩
 ·have:=(Cmp.icmp_is.anti x.at' y.at').1 h
  show ¬ Cmp.icmp y.at' x.at'<0
  omega
 ·exact Cmp.icmp_is.not_lt.2 (Cmp.icmp_is.le_trans (Cmp.icmp_is.not_lt.1 h1) (Cmp.icmp_is.not_lt.1 h2))
theorem rowJ_of (l:List Jp):rowJ (fun i=>elJ (l.getD i z85)) l.length=l:=by
 refine List.ext_getElem (rowJ_len _ _) fun i h1 h2=>?_
 simp[rowJ,row,List.getElem?_eq_getElem h2,jpE,elJ]
theorem rowJ_perm {g g':Nat->SortJ.El} {n:Nat} (h:(row g n).Perm (row g' n)):(rowJ g n).Perm (rowJ g' n):=h.map jpE
theorem fair_of {l:List Jp} (hf:l.any (fun x => !fairB x.f1)=false) (x:Jp) (hx:x ∈ l) : -1048576<=x.f1/\x.f1<=1048576:=by
 have:=List.any_eq_false.1 hf x hx;simp[fairB] at this;omega
theorem grp_of_drop (g:Nat->SortJ.El) (n i:Nat) (h:i<n):grp ((rowJ g n).drop i)=grpAt (g i).at' 0 ((rowJ g n).drop i):=by
 rw[rowJ_drop g n i h]
 show grpAt (jpE (g i)).f0 (jpE (g i)).f1 _=grpAt (g i).at' 0 (jpE (g i) :: _)
 show _=(if (jpE (g i)).f0=(g i).at' then grpAt (g i).at' (0+(jpE (g i)).f1) _ else _)
 rw[if_pos (show (jpE (g i)).f0=(g i).at' from rfl),Int.zero_add]
 rfl
theorem grpAt_step (g:Nat->SortJ.El) (n i:Nat) (h:i<n) (a s:Int) (ha:(g i).at'=a):grpAt a s ((rowJ g n).drop i)=grpAt a (s+(g i).net) ((rowJ g n).drop (i+1)):=by
 rw[rowJ_drop g n i h,grpAt,if_pos (show (jpE (g i)).f0=a from ha)]
 rfl
theorem grpAt_end (g:Nat->SortJ.El) (n i:Nat) (hi:i<=n) (a s:Int) (ha:i<n->(g i).at' ≠ a):grpAt a s ((rowJ g n).drop i)=emit a s ++ grp ((rowJ g n).drop i):=by
 by_cases h:i<n
 ·rw[rowJ_drop g n i h,grpAt,if_neg (show ¬ (jpE (g i)).f0=a from ha h)]
  rfl
 ·rw[List.drop_eq_nil_of_le (by rw[rowJ_len];omega)]
  simp[grpAt,grp]
theorem own_keep {W W':World} {base e size k B:Nat} {v:Value} {xs:List Value} {S':Nat->Prop} (h:W.ownsRow base e size v k xs) (hs:Step (OnlyB B) S' W W') (hB:v.ownBlock ≠ some B):W'.ownsRow base e size v k xs:=by
 refine⟨h.1,?_⟩
 rcases h.2 with h2 | ⟨g,cap,cur,rfl,hg,hh,r⟩
 ·exact .inl h2
 ·exact .inr ⟨g,cap,cur,rfl,hg,(hs.keep g (blk_lt hh) (fun e=>hB (congrArg some (show g=B from e)))).trans hh,r⟩
theorem own_step {W w1:World} {v v':Value} {tmp:Obj} (hgrow:(W.alloc tmp).grownBy w1 v.ownBlock) (hat:v'.ownBlock=v.ownBlock\/v'.ownBlock=some (W.alloc tmp).heap.size) :
  Step (fun b=>v.ownBlock=some b) (fun b=>v'.ownBlock=some b) W w1:=by
 refine⟨hgrow.os,hgrow.tape,hgrow.output,by have:=hgrow.size;rw[World.size_alloc] at this;omega,fun b hb hS=>?_,fun b hb=>?_⟩
 ·exact (hgrow.block b (by rw[World.size_alloc];omega) (fun h=>hS h.symm)).trans (Below.heap_alloc W tmp b hb)
 ·rcases hat with h | h
  ·exact .inl (h ▸ hb)
  ·rw[h] at hb
   have:=OSI hb;rw[World.size_alloc] at this;exact .inr zq4
theorem own_base {W:World} {base b e size k:Nat} {v:Value} {xs:List Value} (h:W.ownsRow b e size v k xs) (hb:base<=b):W.ownsRow base e size v k xs:=by
 refine⟨h.1,?_⟩
 rcases h.2 with h2 | ⟨g,cap,cur,rfl,hg,r⟩
 ·exact .inl h2
 ·exact .inr ⟨g,cap,cur,rfl,Nat.le_trans hb hg,r⟩
theorem norm_tail (A0:Option Addr) (c0:Nat) (l:List Jp) (w:World) (hr0:Kd.C kJ w A0 l.length l) (hc0:l.length<=c0) (hl:l.length<=1099511627776) (hn0:0<l.length) (hf:l.any (fun x => !fairB x.f1)=false) (ht:l.any (fun x=>timeB x.f0)=false) :
  Calls Tryz.prog 109 #[.slice A0 l.length c0] w fun e w'=>∃ (g:Nat->SortJ.El) (v:Value),Up (fun x y=>Cmp.icmp x.at' y.at') g 0 l.length/\(rowJ g l.length).Perm l /\
   e = .returned (.tuple #[v,.int .i64 (toldJ (grp (rowJ g l.length))).2])/\Kd.R kJ 85 w' w.heap.size (fun _=>True) v (toldJ (grp (rowJ g l.length))).1/\Below w.heap.size w w':=by
 have HR:=Hd hr0;have HL:=Hd hl;have F1:=Hd (fun (w1:World) (hb:Below w.heap.size w w1)=>has_jump (fun x => !fairB x.f1) 150 A0 c0 l w1 (fun x w2 _ _=>norm1_calls x w2) (Go.Proofs.enters_of Tryz.func150 zq17 rfl) (Kd.C_below HR.out hb) zq4);have F2:=Hd (fun (w1:World) (hb:Below w.heap.size w w1)=>has_jump (fun x=>timeB x.f0) 151 A0 c0 l w1 (fun x w2 _ _=>norm2_calls x w2) (Go.Proofs.enters_of Tryz.func151 zq17 rfl) (Kd.C_below HR.out hb) zq4);have F3:=Hd (fun (w1:World) (hb:Below w.heap.size w w1)=>clone_Jump.calls A0 c0 l l w1 (Kd.C_below HR.out hb) hc0 (if_pos zq4));rw[hf] at F1;rw[ht] at F2;have HF:=Hd hf;have ORD:=Hd (fun (blk cap:Nat) (w3:World) (g0:Nat->SortJ.El) (h:Holds SortJ.enc 2 w3 blk 85 l.length g0)=>SortJ.sort_calls (fun x y=>Cmp.icmp x.at' y.at') icmp_ord (fun _=>True) blk cap l.length 153 zq4 (Go.Proofs.enters_of Tryz.func153 zq17 rfl) g0 w3 h (fun _ _=>trivial) (fun x y w9 _ _ _=>norm3_calls ⟨x.at',x.net⟩ ⟨y.at',y.net⟩ w9));have HN0:=Hd hn0;have hn0':(0:Int)<(l.length:Int):=by omega
 have hu:=Tryz.underlying85;clear hr0 hc0 hl hf ht hn0;go_enter Tryz.func109,Tryz.ntmps109
 go_wp2_with (first
  | (with_reducible refine (F1.out _ (Below.refl _ _)).mono ?_;rintro e w1 ⟨rfl,hb1⟩;have HB1:=Hd hb1;clear hb1)
  | (with_reducible refine (F2.out _ HB1.out).mono ?_;rintro e w2 ⟨rfl,hb2⟩;have HB2:=Hd (HB1.out.trans (hb2.mono HB1.out.size));clear hb2)
  | (go_at_call 114;(with_reducible refine (F3.out _ HB2.out).mono ?_);rintro e w3 ⟨v4,rfl,hR,hb3⟩;have HB3:=Hd (HB2.out.trans (hb3.mono HB2.out.size));obtain⟨blk,cap,rfl,hbk,hH⟩:=holds_of_R hR HN0.out;have HBK:=Hd (Nat.le_trans HB2.out.size hbk);have HH:=Hd hH;have SC:=Hd (ORD.out blk cap w3 _ hH);clear hb3 hR hbk hH)
  | (go_at_call 152;(with_reducible refine SC.out.mono ?_);rintro e w4 ⟨rfl,g,k1,k2,k3,k4,k5⟩;have HO:=Hd k1;have HU:=Hd k2;have HSM:=Hd k3;have HS:=Hd k4;have HP:=Hd k5;clear k1 k2 k3 k4 k5))
 have hu43:Tryz.prog.underlying 43=some (.slice 85):=by kernel_rfl
 obtain⟨i0,hi0,hz0,hz1,hz2⟩:=info_parts infoJump;have HPJ:=Hd (show (rowJ g l.length).Perm l by have:=rowJ_perm HP.out;rwa [rowJ_of] at this);have HNET:=Hd (show ∀ i,i<l.length -> -1048576<=(g i).net/\(g i).net<=1048576 by
  intro i hi;refine fair_of HF.out (jpE (g i)) (HPJ.out.mem_iff.1 ?_);exact List.mem_map_of_mem (by simp only[row];exact List.mem_map.2 ⟨i,List.mem_range.2 hi,rfl⟩))
 clear HP HSM;have HB4:=Hd (HB3.out.trans ((HS.out.below (n:=w.heap.size) HB3.out.size (fun b hb=>by rw[show b=blk from hb];exact HBK.out)).mono (Nat.le_refl _)))
 go_loopw [5,6] (fun v5 v6 wr=>∃ (i:Nat) (pre:List Jp) (A:Option Addr) (c:Nat),i<=l.length/\v6 = .int .i64 (i:Int)/\v5 = .slice A pre.length c/\Aside0 (pre.length<=i)/\Aside0 (grp (rowJ g l.length)=pre ++ grp ((rowJ g l.length).drop i))/\Aside0 (wr.ownsRow w4.heap.size 85 2 (.slice A pre.length c) pre.length (cellsJ pre))/\Aside0 (Below w4.heap.size w4 wr)) (fun v5 v6 wr=>l.length - (intOf v6).toNat)
 case atStart =>
  refine⟨0,[],some ⟨w4.heap.size,0,none⟩,0,by omega,rfl,rfl,⟨Nat.le_refl _⟩,⟨by simp⟩,⟨⟨rfl,.inr ⟨w4.heap.size,0,#[],rfl,Nat.le_refl _,?_,Nat.le_refl _,Nat.zero_le _,rfl,rfl⟩⟩⟩,⟨below_alloc (Below.refl _ w4) _⟩⟩;exact blk_new w4 _
 case round =>
  obtain⟨i,pre,A,c,hi,rfl,rfl,HPL,HE,HO5,HBr⟩:=hrel;obtain⟨wo,hwo⟩:∃ x,x=wr:=⟨_,rfl⟩
  subst hwo;have hl9:=HL.out
  by_cases hlt:i<l.length
  ·have HR4:=Hd (HO.out.below HBr.out)
   have x0:wo.cell? ⟨blk,i*2,none⟩=some (.int .i64 (g i).at'):=HR4.out.cell (i:=i) (j:=0) (u:=.int .i64 (g i).at') hlt rfl;have HAT:=Hd (grp_of_drop g l.length i hlt);obtain⟨at',hat⟩:∃ at',(g i).at'=at':=⟨_,rfl⟩
   rw[hat] at x0 HAT;have HEA:=Hd hat;clear hat;go_wp2
   go_loopw [6] (fun v6 wr=>∃ (j:Nat) (s:Int),i<=j/\j<=l.length/\v6 = .int .i64 (j:Int)/\Aside0 (-((j:Int)*1048576)<=s/\s<=(j:Int)*1048576)/\Aside0 (grp (rowJ g l.length)=pre ++ grpAt at' s ((rowJ g l.length).drop j))/\Aside0 (wr.heap[wo.heap.size]? = some (.cells #[.int .i64 at',.int .i64 s] 85 (0,0)))/\Aside0 (Step (OnlyB wo.heap.size) (OnlyB wo.heap.size) (wo.alloc (.cells #[.int .i64 at',.int .i64 0] 85 (0,0))) wr)) (fun v6 wr=>l.length - (intOf v6).toNat)
   case atStart =>
    exact⟨i,0,Nat.le_refl _,hi,rfl,⟨by omega,by omega⟩,⟨by rw[HE.out,HAT.out]⟩,⟨blk_new wo _⟩,⟨Step.refl _ _⟩⟩
   case round =>
    obtain⟨j,s,hij,hj,rfl,HS1,HE1,HX,HST⟩:=hrel;have HB5:=Hd (show Below w4.heap.size w4 wr from (below_alloc HBr.out _).trans (HST.out.below (by rw[World.size_alloc];have:=HBr.out.size;omega) (fun b hb=>by rw[show b=wo.heap.size from hb];exact HBr.out.size)));have HRT:=Hd (HO.out.below HB5.out);have b0:wr.cell? ⟨wo.heap.size,0,none⟩=some (.int .i64 at'):=(blk_cell HX.out 0).trans rfl;have b1:wr.cell? ⟨wo.heap.size,1,none⟩=some (.int .i64 s):=(blk_cell HX.out 1).trans rfl
    by_cases hjl:j<l.length
    ·have y0:wr.cell? ⟨blk,j*2,none⟩=some (.int .i64 (g j).at'):=HRT.out.cell (i:=j) (j:=0) (u:=.int .i64 (g j).at') hjl rfl
     have y1:wr.cell? ⟨blk,j*2+1,none⟩=some (.int .i64 (g j).net):=HRT.out.cell (i:=j) (j:=1) (u:=.int .i64 (g j).net) hjl rfl
     by_cases hat2:(g j).at'=at'
     ·have HSTEP:=Hd (grpAt_step g l.length j hjl at' s hat2)
      have HN:=Hd (HNET.out j hjl);obtain⟨nt,hnt⟩:∃ nt,(g j).net=nt:=⟨_,rfl⟩
      rw[hat2] at y0;rw[hnt] at y1 HSTEP HN;have x0':=fun p=>BelowOf.cell b0 p
      have y0':=fun p=>BelowOf.cell y0 p
      clear hat2 hnt;go_wp2;refine wp_region_quiet_below zq17 zq17 ?_
      repeat (go_big_quiet_step (exact below_calls (CM.out _)))
      refine wpQuiet_nil ?_;intro wq hw1;have HWQ:=Hd (show Below wr.heap.size wr wq by obtain⟨p,rfl⟩:=hw1;exact p.h);clear hw1;clear x0' y0';have b1':=pw_cell_below HWQ.out b1;have y1':=pw_cell_below HWQ.out y1;have q1:IntKind.i64.wrap (s+nt)=s+nt:=by have:=HS1.out;have:=HN.out;rw[IntKind.wrap_i64];omega
      clear x0 b0 b1 y0 y1;go_wp2;have HXQ:=Hd (blk_below HX.out HWQ.out);have HSQ:=Hd (HST.out.trans (step_below HWQ.out));have fz:=blk_frozen HXQ.out 1
      go_region
      go_wp2;go_roundw
      case rel =>
       refine⟨j+1,s+nt,by omega,by omega,by go_num,⟨?_⟩,⟨by rw[HE1.out,HSTEP.out]⟩,⟨(blk_set HXQ.out 1 _).trans rfl⟩,⟨HSQ.out.trans (step_drew _ (step_set _ _ _ _))⟩⟩;have:=HS1.out;have:=HN.out;omega
      case measure=>simp[intOf];omega
     ·have HEND:=Hd (grpAt_end g l.length j hj at' s (fun _=>hat2))
      have HIJ:=Hd (Nat.lt_of_le_of_ne hij (fun h=>hat2 (h ▸ HEA.out)));obtain⟨Y,hY⟩:∃ Y,(g j).at'=Y:=⟨_,rfl⟩
      rw[hY] at y0 hat2;have bY:(Y == at')=false:=beq_eq_false_iff_ne.2 hat2;have x0':=fun p=>BelowOf.cell b0 p
      have y0':=fun p=>BelowOf.cell y0 p
      clear hY;go_wp2;refine wp_region_quiet_below zq17 zq17 ?_
      repeat (go_big_quiet_step (exact below_calls (CM.out _)))
      refine wpQuiet_nil ?_;intro wq hw1;have HWQ:=Hd (show Below wr.heap.size wr wq by obtain⟨p,rfl⟩:=hw1;exact p.h);clear hw1;clear x0' y0' y0 y1 bY hat2;have b0':=pw_cell_below HWQ.out b0;have b1':=pw_cell_below HWQ.out b1;clear b0 b1;have b0:=b0';have b1:=b1';clear b0' b1'
      by_cases hs0:s ≠ 0
      ·by_cases hF:at'<1125899906842624
       ·have HEM:=Hd (show emit at' s=[⟨at',s⟩] by unfold emit;rw[if_pos ⟨hs0,hF⟩])
        have HSZ:=Hd (HST.out.trans (step_below HWQ.out));have HXZ:=Hd (blk_below HX.out HWQ.out);have HBZ:=Hd (show Below w4.heap.size w4 wq from HB5.out.trans (HWQ.out.mono HB5.out.size));have HOZ:=Hd (own_keep (HO5.out.alloc _) HSZ.out (fun e=>Nat.lt_irrefl _ (own_lt' HO5.out e).2));have HO3:=Hd (HOZ.out.alloc (.cells #[.int .i64 at',.int .i64 s] 85 (0,0)))
        go_wp2_with (at_builtin;(refine wpList_append_own_at _ rfl _ _ _ rfl w4.heap.size 85 i0 _ 2 16 hu43 hi0 hz0 hz1 hz2 rfl zq4 _ pre.length (cellsJ pre) rfl HO3.out ⟨wq.heap.size,0,none⟩ 1 1 [.int .i64 at',.int .i64 s] rfl rfl ?hc ?h1c ?b1 ?b2 ?b3 ?_))
        case hc =>
         intro j1 u hju
         match j1 with
         | 0=>cases hju;exact (blk_cell (blk_new wq _) 0).trans rfl
         | 1=>cases hju;exact (blk_cell (blk_new wq _) 1).trans rfl
         | j1+2=>cases hju
        case h1c =>
         intro u hu
         rcases List.mem_cons.1 hu with rfl | hu
         ·rfl
         ·rcases List.mem_cons.1 hu with rfl | hu
          ·rfl
          ·cases hu
        case b1=>have:=HPL.out;unfold maxLen;omega
        case b2=>have:=HPL.out;omega
        case b3=>have:=HBZ.out.size;rw[World.size_alloc];omega
        intro v' w1 hown' hgrow _ hat;obtain⟨g1,cap1,rfl⟩:=ownsRow_succ hown';have HS1:=Hd (own_step hgrow (by rw[World.size_alloc];exact hat));have HO1:=Hd hown';have HB1:=Hd (HBZ.out.trans (HS1.out.below HBZ.out.size (fun b hb=>(own_lt' HOZ.out hb).1)));have hcl:cellsJ pre ++ [.int .i64 at',.int .i64 s]=cellsJ (pre ++ [⟨at',s⟩]):=by simp[cellsJ]
        rw[hcl] at HO1;clear hown' hgrow hat hcl;go_wp2;go_roundw
        case rel=>first | exact⟨j,pre ++ [⟨at',s⟩],some ⟨g1,0,none⟩,cap1,hj,rfl,by simp,⟨by have:=HPL.out;have:=HIJ.out;simp;omega⟩,⟨by rw[HE1.out,HEND.out,HEM.out];simp⟩,⟨by rw[List.length_append];exact HO1.out⟩,⟨HB1.out⟩⟩ | trace_state
        case measure=>have:=HIJ.out;simp[intOf];omega
       ·have HEM:=Hd (show emit at' s=[] by unfold emit;rw[if_neg (fun h=>by first | exact hs0 h.1 | exact hF h.2)])
        have HSZ:=Hd (HST.out.trans (step_below HWQ.out));have HXZ:=Hd (blk_below HX.out HWQ.out);have HBZ:=Hd (show Below w4.heap.size w4 wq from HB5.out.trans (HWQ.out.mono HB5.out.size));have HOZ:=Hd (own_keep (HO5.out.alloc _) HSZ.out (fun e=>Nat.lt_irrefl _ (own_lt' HO5.out e).2));go_wp2;go_roundw
        case rel=>first | exact⟨j,pre,A,c,hj,rfl,rfl,⟨by have:=HPL.out;omega⟩,⟨by rw[HE1.out,HEND.out,HEM.out];rfl⟩,⟨HOZ.out⟩,⟨HBZ.out⟩⟩ | exact⟨j,hj,rfl,pre,A,c,⟨rfl,rfl,rfl⟩,⟨by have:=HPL.out;omega⟩,⟨by rw[HE1.out,HEND.out,HEM.out];rfl⟩,⟨HOZ.out⟩,⟨HBZ.out⟩⟩
        case measure=>have:=HIJ.out;simp[intOf];omega
      ·have hF:=hs0
       have HEM:=Hd (show emit at' s=[] by unfold emit;rw[if_neg (fun h=>by first | exact hs0 h.1 | exact hF h.2)]);have HSZ:=Hd (HST.out.trans (step_below HWQ.out));have HXZ:=Hd (blk_below HX.out HWQ.out);have HBZ:=Hd (show Below w4.heap.size w4 wq from HB5.out.trans (HWQ.out.mono HB5.out.size));have HOZ:=Hd (own_keep (HO5.out.alloc _) HSZ.out (fun e=>Nat.lt_irrefl _ (own_lt' HO5.out e).2));go_wp2;go_roundw
       case rel=>first | exact⟨j,pre,A,c,hj,rfl,rfl,⟨by have:=HPL.out;omega⟩,⟨by rw[HE1.out,HEND.out,HEM.out];rfl⟩,⟨HOZ.out⟩,⟨HBZ.out⟩⟩ | exact⟨j,hj,rfl,pre,A,c,⟨rfl,rfl,rfl⟩,⟨by have:=HPL.out;omega⟩,⟨by rw[HE1.out,HEND.out,HEM.out];rfl⟩,⟨HOZ.out⟩,⟨HBZ.out⟩⟩
       case measure=>have:=HIJ.out;simp[intOf];omega
    ·obtain rfl:j=l.length:=by omega
     have HEND:=Hd (grpAt_end g l.length l.length hj at' s (fun h=>absurd h (Nat.lt_irrefl _)));have HIJ:=Hd (show i<l.length from hlt);go_wp2;refine wp_region_quiet_below zq17 zq17 ?_
     repeat (go_big_quiet_step (exact below_calls (CM.out _)))
     refine wpQuiet_nil ?_;intro wq hw1;have HWQ:=Hd (show Below wr.heap.size wr wq by obtain⟨p,rfl⟩:=hw1;exact p.h);clear hw1;have b0':=pw_cell_below HWQ.out b0;have b1':=pw_cell_below HWQ.out b1;clear b0 b1;have b0:=b0';have b1:=b1';clear b0' b1'
     by_cases hs0:s ≠ 0
     ·by_cases hF:at'<1125899906842624
      ·have HEM:=Hd (show emit at' s=[⟨at',s⟩] by unfold emit;rw[if_pos ⟨hs0,hF⟩])
       have HSZ:=Hd (HST.out.trans (step_below HWQ.out));have HXZ:=Hd (blk_below HX.out HWQ.out);have HBZ:=Hd (show Below w4.heap.size w4 wq from HB5.out.trans (HWQ.out.mono HB5.out.size));have HOZ:=Hd (own_keep (HO5.out.alloc _) HSZ.out (fun e=>Nat.lt_irrefl _ (own_lt' HO5.out e).2));have HO3:=Hd (HOZ.out.alloc (.cells #[.int .i64 at',.int .i64 s] 85 (0,0)))
       go_wp2_with (at_builtin;(refine wpList_append_own_at _ rfl _ _ _ rfl w4.heap.size 85 i0 _ 2 16 hu43 hi0 hz0 hz1 hz2 rfl zq4 _ pre.length (cellsJ pre) rfl HO3.out ⟨wq.heap.size,0,none⟩ 1 1 [.int .i64 at',.int .i64 s] rfl rfl ?hc ?h1c ?b1 ?b2 ?b3 ?_))
       case hc =>
        intro j1 u hju
        match j1 with
        | 0=>cases hju;exact (blk_cell (blk_new wq _) 0).trans rfl
        | 1=>cases hju;exact (blk_cell (blk_new wq _) 1).trans rfl
        | j1+2=>cases hju
       case h1c =>
        intro u hu
        rcases List.mem_cons.1 hu with rfl | hu
        ·rfl
        ·rcases List.mem_cons.1 hu with rfl | hu
         ·rfl
         ·cases hu
       case b1=>have:=HPL.out;unfold maxLen;omega
       case b2=>have:=HPL.out;omega
       case b3=>have:=HBZ.out.size;rw[World.size_alloc];omega
       intro v' w1 hown' hgrow _ hat;obtain⟨g1,cap1,rfl⟩:=ownsRow_succ hown';have HS1:=Hd (own_step hgrow (by rw[World.size_alloc];exact hat));have HO1:=Hd hown';have HB1:=Hd (HBZ.out.trans (HS1.out.below HBZ.out.size (fun b hb=>(own_lt' HOZ.out hb).1)));have hcl:cellsJ pre ++ [.int .i64 at',.int .i64 s]=cellsJ (pre ++ [⟨at',s⟩]):=by simp[cellsJ]
       rw[hcl] at HO1;clear hown' hgrow hat hcl;go_wp2;go_roundw
       case rel=>first | exact⟨l.length,pre ++ [⟨at',s⟩],some ⟨g1,0,none⟩,cap1,hj,rfl,by simp,⟨by have:=HPL.out;have:=HIJ.out;simp;omega⟩,⟨by rw[HE1.out,HEND.out,HEM.out];simp⟩,⟨by rw[List.length_append];exact HO1.out⟩,⟨HB1.out⟩⟩ | trace_state
       case measure=>have:=HIJ.out;simp[intOf];omega
      ·have HEM:=Hd (show emit at' s=[] by unfold emit;rw[if_neg (fun h=>by first | exact hs0 h.1 | exact hF h.2)])
       have HSZ:=Hd (HST.out.trans (step_below HWQ.out));have HXZ:=Hd (blk_below HX.out HWQ.out);have HBZ:=Hd (show Below w4.heap.size w4 wq from HB5.out.trans (HWQ.out.mono HB5.out.size));have HOZ:=Hd (own_keep (HO5.out.alloc _) HSZ.out (fun e=>Nat.lt_irrefl _ (own_lt' HO5.out e).2));go_wp2;go_roundw
       case rel=>first | exact⟨l.length,pre,A,c,hj,rfl,rfl,⟨by have:=HPL.out;omega⟩,⟨by rw[HE1.out,HEND.out,HEM.out];rfl⟩,⟨HOZ.out⟩,⟨HBZ.out⟩⟩ | exact⟨l.length,hj,rfl,pre,A,c,⟨rfl,rfl,rfl⟩,⟨by have:=HPL.out;omega⟩,⟨by rw[HE1.out,HEND.out,HEM.out];rfl⟩,⟨HOZ.out⟩,⟨HBZ.out⟩⟩
       case measure=>have:=HIJ.out;simp[intOf];omega
     ·have hF:=hs0
      have HEM:=Hd (show emit at' s=[] by unfold emit;rw[if_neg (fun h=>by first | exact hs0 h.1 | exact hF h.2)]);have HSZ:=Hd (HST.out.trans (step_below HWQ.out));have HXZ:=Hd (blk_below HX.out HWQ.out);have HBZ:=Hd (show Below w4.heap.size w4 wq from HB5.out.trans (HWQ.out.mono HB5.out.size));have HOZ:=Hd (own_keep (HO5.out.alloc _) HSZ.out (fun e=>Nat.lt_irrefl _ (own_lt' HO5.out e).2));go_wp2;go_roundw
      case rel=>first | exact⟨l.length,pre,A,c,hj,rfl,rfl,⟨by have:=HPL.out;omega⟩,⟨by rw[HE1.out,HEND.out,HEM.out];rfl⟩,⟨HOZ.out⟩,⟨HBZ.out⟩⟩ | exact⟨l.length,hj,rfl,pre,A,c,⟨rfl,rfl,rfl⟩,⟨by have:=HPL.out;omega⟩,⟨by rw[HE1.out,HEND.out,HEM.out];rfl⟩,⟨HOZ.out⟩,⟨HBZ.out⟩⟩
      case measure=>have:=HIJ.out;simp[intOf];omega
  ·obtain rfl:i=l.length:=by omega
   have HEQ:=Hd (show grp (rowJ g l.length)=pre by rw[HE.out,List.drop_eq_nil_of_le (by rw[rowJ_len];omega)];simp[grp]);have HBW:=Hd (show Below w.heap.size w wo from HB4.out.trans (HBr.out.mono HB4.out.size));have TC:=Hd (step_told.calls (pre.length+1) (fun _=>True) _ pre _ _ w wo HBW.out (R_of_cells (own_base HO5.out HB4.out.size)) (told_f pre))
   go_wp2_with (go_at_call 115;(with_reducible refine TC.out.mono ?_);rintro e w5 ⟨v5,rfl,hR,hb5,_⟩;have HR5:=Hd hR;have HB5:=Hd hb5;clear hR hb5)
   go_ret2;exact⟨g,v5,HU.out,HPJ.out,by rw[HEQ.out];rfl,by rw[HEQ.out];exact Kd.R_mono HR5.out (fun _ _=>trivial),HB5.out⟩
end Go.Proofs.YtmkgecapkeojaaaGreat.Stp
end
section
namespace Go.Proofs.YtmkgecapkeojaaaGreat.Stp
open PDa
open RowKit YtmkgecapkeojaaaGreatW.PrintWords YtmkgecapkeojaaaGreatW.PrintLast YtmkgecapkeojaaaGreatW.PrintMore
open SortP SortM Canon
def pJ (x:Jp):Int × Int:=(x.f0,x.f1)
def uJ (x:Int × Int):Jp:=⟨x.1,x.2⟩
theorem uJ_pJ (x:Jp):uJ (pJ x)=x:=rfl
def ltI (a b:Int):Bool:=decide (a<b)
theorem ltI_ord:KOrd ltI:=by
 refine⟨?_,?_,?_⟩ <;> intros <;> simp_all [ltI] <;> omega
def canonJ (l:List Jp):List Jp:=(canon ltI ((l.map pJ).filter fun x=>decide (x.1<1125899906842624))).map uJ
theorem J_emit (a s k:Int):J ((emit a s).map pJ) k=if k<1125899906842624 then (if a=k then s else 0) else 0:=by
 unfold emit
 by_cases h1:s ≠ 0/\a<1125899906842624
 ·rw[if_pos h1]
  simp only[List.map_cons,List.map_nil,J_cons,J_nil,pJ]
  split <;> rename_i h2
  ·subst h2;rw[if_pos h1.2];omega
  ·simp
 ·rw[if_neg h1]
  simp only[List.map_nil,J_nil]
  split
  ·split <;> rename_i h3
   ·subst h3;rename_i h4;by_cases hs:s=0
    ·exact hs.symm
    ·exact absurd ⟨hs,h4⟩ h1
   ·rfl
  ·rfl
theorem J_grpAt (k:Int):∀ (l:List Jp) (a s:Int),J ((grpAt a s l).map pJ) k=if k<1125899906842624 then (if a=k then s else 0)+J (l.map pJ) k else 0
 | [],a,s=>by rw[grpAt,J_emit];simp[J_nil]
 | y :: ys,a,s=>by
  rw[grpAt];simp only[List.map_cons,J_cons]
  split <;> rename_i h
  ·rw[J_grpAt k ys,show (pJ y).1=a from h,show (pJ y).2=y.f1 from rfl]
   by_cases hk:k<1125899906842624
   ·rw[if_pos hk,if_pos hk];split <;> omega
   ·rw[if_neg hk,if_neg hk]
  ·rw[List.map_append,J_append,J_emit,J_grpAt k ys,show (pJ y).1=y.f0 from rfl,show (pJ y).2=y.f1 from rfl]
   by_cases hk:k<1125899906842624
   ·rw[if_pos hk,if_pos hk,if_pos hk]
   ·rw[if_neg hk,if_neg hk,if_neg hk];rfl
theorem J_grp (k:Int) (l:List Jp):J ((grp l).map pJ) k=if k<1125899906842624 then J (l.map pJ) k else 0:=by
 cases l with
 | nil=>simp[grp,J_nil]
 | cons x xs=>rw[grp,J_grpAt,List.map_cons,J_cons];rfl
theorem grpAt_keys:∀ (l:List Jp) (a s:Int),(∀ y ∈ l,a<=y.f0)->l.Pairwise (fun x y=>x.f0<=y.f0)->(∀ x ∈ grpAt a s l,a<=x.f0)/\(grpAt a s l).Pairwise (fun x y=>x.f0<y.f0) /\ ∀ x ∈ grpAt a s l,x.f1 ≠ 0
 | [],a,s,_,_=>by
  rw[grpAt];unfold emit
  split <;> rename_i h
  ·simp;exact h.1
  ·simp
 | y :: ys,a,s,hm,hp=>by
  have hp2:=List.pairwise_cons.1 hp;rw[grpAt]
  split <;> rename_i h
  ·exact grpAt_keys ys a _ (fun z hz=>hm z (List.mem_cons_of_mem _ hz)) hp2.2
  ·obtain⟨h1,h2,h3⟩:=grpAt_keys ys y.f0 y.f1 hp2.1 hp2.2
   have ha:a<y.f0:=by have:=hm y (List.mem_cons_self ..);omega
   unfold emit
   split <;> rename_i hs
   ·refine⟨fun x hx=>?_,?_,fun x hx=>?_⟩
    ·rcases List.mem_append.1 hx with hx | hx
     ·rw[List.mem_singleton.1 hx];exact Int.le_refl _
     ·have:=h1 x hx;omega
    ·rw[List.singleton_append,List.pairwise_cons]
     exact⟨fun x hx=>by have:=h1 x hx;show a<x.f0;omega,h2⟩
    ·rcases List.mem_append.1 hx with hx | hx
     ·rw[List.mem_singleton.1 hx];exact hs.1
     ·exact h3 x hx
   ·rw[List.nil_append]
    exact⟨fun x hx=>by have:=h1 x hx;omega,h2,h3⟩
theorem grp_canon (l:List Jp) (h:l.Pairwise (fun x y=>x.f0<=y.f0)):IsCanon ltI ((grp l).map pJ):=by
 cases l with
 | nil=>exact⟨List.Pairwise.nil,fun x hx=>by cases hx⟩
 | cons x xs =>
  have h2:=List.pairwise_cons.1 h;obtain⟨_,h4,h5⟩:=grpAt_keys xs x.f0 x.f1 h2.1 h2.2;refine⟨?_,fun y hy=>?_⟩
  ·rw[grp,List.pairwise_map]
   exact h4.imp fun hh=>DET hh
  ·obtain⟨z,hz,rfl⟩:=List.mem_map.1 hy
   exact h5 z hz
theorem grp_eq {l m:List Jp} (h:m.Pairwise (fun x y=>x.f0<=y.f0)) (hp:m.Perm l):grp m=canonJ l:=by
 have e:=canon_eq ltI_ord (l:=(l.map pJ).filter fun x=>decide (x.1<1125899906842624)) (grp_canon m h) fun k=>by
  rw[J_grp,J_filterK (fun k=>decide (k<1125899906842624)),J_perm k (hp.map pJ)];simp
 rw[canonJ, <- e,List.map_map];exact (List.map_id _).symm.trans (List.map_congr_left fun x _=>(uJ_pJ x).symm)
theorem rowJ_sorted {g:Nat->SortJ.El} {n:Nat} (h:Up (fun x y:SortJ.El=>Cmp.icmp x.at' y.at') g 0 n):(rowJ g n).Pairwise (fun x y=>x.f0<=y.f0):=by
 unfold rowJ row;rw[List.map_map,List.pairwise_map];refine List.Pairwise.imp_of_mem ?_ List.pairwise_lt_range;intro a b ha hb hab;have hle:=h a b (Nat.zero_le _) hab (List.mem_range.1 hb);have:¬ Cmp.icmp (g b).at' (g a).at'<0:=hle;unfold Cmp.icmp at this
 show (g a).at'<=(g b).at'
 split at this <;> rename_i h1
 ·omega
 ·omega
def normJ (l:List Jp):List Jp × Int:=if l.any (fun x => !fairB x.f1)=true then ([],2) else if l.any (fun x=>timeB x.f0)=true then ([],13) else toldJ (canonJ l)
end Go.Proofs.YtmkgecapkeojaaaGreat.Stp
end
section
namespace Go.Proofs.YtmkgecapkeojaaaGreat.Stp
open PDa
open RowKit YtmkgecapkeojaaaGreatW.PrintWords YtmkgecapkeojaaaGreatW.PrintLast YtmkgecapkeojaaaGreatW.PrintMore
open SortP SortM Run
theorem normJ_ok {l:List Jp} (hf:l.any (fun x => !fairB x.f1)=false) (ht:l.any (fun x=>timeB x.f0)=false):normJ l=toldJ (canonJ l):=by
 unfold normJ;rw[hf,ht];rfl
theorem normJ_arg {l:List Jp} (hf:l.any (fun x => !fairB x.f1)=true):normJ l=([],2):=by unfold normJ;rw[hf];rfl
theorem normJ_time {l:List Jp} (hf:l.any (fun x => !fairB x.f1)=false) (ht:l.any (fun x=>timeB x.f0)=true):normJ l=([],13):=by unfold normJ;rw[hf,ht];rfl
theorem R_nil (W:World) (base:Nat):Kd.R kJ 85 W base (fun _=>True) (.slice none 0 0) [] :=
 R_of_cells (xs:=[]) ⟨rfl,.inl ⟨rfl,rfl⟩⟩
theorem norm_arg (A0:Option Addr) (c0:Nat) (l:List Jp) (w:World) (hr0:Kd.C kJ w A0 l.length l) (hl:l.length<=1099511627776) (hf:l.any (fun x => !fairB x.f1)=true) :
  Calls Tryz.prog 109 #[.slice A0 l.length c0] w fun e w'=>e = .returned (.tuple #[.slice none 0 0,.int .i64 2])/\Below w.heap.size w w':=by
 have F1:=Hd (has_jump (fun x => !fairB x.f1) 150 A0 c0 l w (fun x w2 _ _=>norm1_calls x w2) (Go.Proofs.enters_of Tryz.func150 zq17 rfl) hr0 zq4);rw[hf] at F1;clear hr0 hl hf;go_enter Tryz.func109,Tryz.ntmps109
 go_wp2_with (with_reducible refine F1.out.mono ?_;rintro e w1 ⟨rfl,hb1⟩;have HB1:=Hd hb1;clear hb1)
 go_ret2;exact⟨rfl,HB1.out⟩
theorem norm_time (A0:Option Addr) (c0:Nat) (l:List Jp) (w:World) (hr0:Kd.C kJ w A0 l.length l) (hl:l.length<=1099511627776) (hf:l.any (fun x => !fairB x.f1)=false) (ht:l.any (fun x=>timeB x.f0)=true) :
  Calls Tryz.prog 109 #[.slice A0 l.length c0] w fun e w'=>e = .returned (.tuple #[.slice none 0 0,.int .i64 13])/\Below w.heap.size w w':=by
 have HR:=Hd hr0;have F1:=Hd (has_jump (fun x => !fairB x.f1) 150 A0 c0 l w (fun x w2 _ _=>norm1_calls x w2) (Go.Proofs.enters_of Tryz.func150 zq17 rfl) hr0 zq4);have F2:=Hd (fun (w1:World) (hb:Below w.heap.size w w1)=>has_jump (fun x=>timeB x.f0) 151 A0 c0 l w1 (fun x w2 _ _=>norm2_calls x w2) (Go.Proofs.enters_of Tryz.func151 zq17 rfl) (Kd.C_below HR.out hb) zq4);rw[hf] at F1;rw[ht] at F2;clear hr0 hl hf ht;go_enter Tryz.func109,Tryz.ntmps109
 go_wp2_with (first
  | (with_reducible refine F1.out.mono ?_;rintro e w1 ⟨rfl,hb1⟩;have HB1:=Hd hb1;clear hb1)
  | (with_reducible refine (F2.out _ HB1.out).mono ?_;rintro e w2 ⟨rfl,hb2⟩;have HB2:=Hd (HB1.out.trans (hb2.mono HB1.out.size));clear hb2))
 go_ret2;exact⟨rfl,HB2.out⟩
theorem sort_none {W W0:World} {v:Value} (h:Kd.R kJ 85 W W0.heap.size (fun _=>True) v []) (hb:W0.heap.size<=W.heap.size) :
  ∃ A c,v = .slice A 0 c/\Calls Tryz.prog 152 #[.slice A 0 c,.func (.func 153) #[] #[]] W fun e w'=>e = .returned (.tuple #[])/\Below W0.heap.size W w':=by
 obtain⟨_,inner,ho,hr⟩:=h
 rcases ho.2 with ⟨rfl,_⟩ | ⟨g,cap,cur,rfl,hg,hh,h1,h2,h3,h4⟩
 ·exact⟨none,0,rfl,(SortJ.sort_nil 0 _ W).mono fun e w' h=>⟨h.1,by rw[h.2];exact Below.refl _ _⟩⟩
 ·refine⟨_,cap,rfl,(SortJ.sort_calls (fun x y=>Cmp.icmp x.at' y.at') icmp_ord (fun _=>True) g cap 0 153 zq4 (Go.Proofs.enters_of Tryz.func153 zq17 rfl) (fun _=>⟨0,0⟩) W ⟨cur,hh,by omega,fun i j u hi _=>absurd hi (Nat.not_lt_zero _)⟩ (fun _ _=>trivial) (fun x y w9 _ _ _=>norm3_calls ⟨x.at',x.net⟩ ⟨y.at',y.net⟩ w9)).mono fun e w' h=>?_⟩
  obtain⟨h0,g',_,_,_,hs,_⟩:=h;exact⟨h0,hs.below hb (fun b hb'=>by rw[show b=g from hb'];exact hg)⟩
theorem norm_none (A0:Option Addr) (c0:Nat) (w:World) (hr0:Kd.C kJ w A0 0 []) :
  Calls Tryz.prog 109 #[.slice A0 0 c0] w fun e w'=>∃ v,e = .returned (.tuple #[v,.int .i64 0])/\Kd.R kJ 85 w' w.heap.size (fun _=>True) v []/\Below w.heap.size w w':=by
 have HR:=Hd hr0;have F1:=Hd (has_jump (fun x => !fairB x.f1) 150 A0 c0 [] w (fun x w2 _ _=>norm1_calls x w2) (Go.Proofs.enters_of Tryz.func150 zq17 rfl) hr0 zq34);have F2:=Hd (fun (w1:World) (hb:Below w.heap.size w w1)=>has_jump (fun x=>timeB x.f0) 151 A0 c0 [] w1 (fun x w2 _ _=>norm2_calls x w2) (Go.Proofs.enters_of Tryz.func151 zq17 rfl) (Kd.C_below HR.out hb) zq34);have F3:=Hd (fun (w1:World) (hb:Below w.heap.size w w1)=>clone_Jump.calls A0 c0 [] [] w1 (Kd.C_below HR.out hb) (Nat.zero_le _) (if_pos zq34));rw[show ([]:List Jp).any (fun x => !fairB x.f1)=false from rfl] at F1;rw[show ([]:List Jp).any (fun x=>timeB x.f0)=false from rfl] at F2;rw[show ([]:List Jp).length=0 from rfl] at F1 F2 F3;clear hr0;go_enter Tryz.func109,Tryz.ntmps109
 go_wp2_with (first
  | (with_reducible refine F1.out.mono ?_;rintro e w1 ⟨rfl,hb1⟩;have HB1:=Hd hb1;clear hb1)
  | (with_reducible refine (F2.out _ HB1.out).mono ?_;rintro e w2 ⟨rfl,hb2⟩;have HB2:=Hd (HB1.out.trans (hb2.mono HB1.out.size));clear hb2)
  | (go_at_call 114;(with_reducible refine (F3.out _ HB2.out).mono ?_);rintro e w3 ⟨v4,rfl,hR,hb3⟩;have HB3:=Hd (HB2.out.trans (hb3.mono HB2.out.size));obtain⟨A4,c4,rfl,hS⟩:=sort_none (W0:=w2) hR hb3.size;have SC:=Hd hS;clear hb3 hR hS)
  | (go_at_call 152;(with_reducible refine SC.out.mono ?_);rintro e w4 ⟨rfl,hb4⟩;have HB4:=Hd (HB3.out.trans (hb4.mono HB2.out.size));clear hb4))
 go_loopw [5,6] (fun v5 v6 wr=>v6 = .int .i64 0/\v5 = .slice (some ⟨w4.heap.size,0,none⟩) 0 0/\Aside0 (wr=w4.alloc (.cells #[] 85 (0,0)))) (fun v5 v6 wr=>0)
 case atStart=>exact⟨rfl,rfl,⟨rfl⟩⟩
 case round =>
  obtain⟨rfl,rfl,HW⟩:=hrel;have HBW:=Hd (show Below w.heap.size w wr by rw[HW.out];exact below_alloc HB4.out _);have HR5:=Hd (show Kd.R kJ 85 wr w.heap.size (fun _=>True) (.slice (some ⟨w4.heap.size,0,none⟩) 0 0) [] by
   refine R_of_cells (xs:=[]) ⟨rfl,.inr ⟨w4.heap.size,0,#[],rfl,HB4.out.size,?_,Nat.le_refl _,Nat.zero_le _,rfl,rfl⟩⟩;rw[HW.out];exact blk_new w4 _)
  have TC:=Hd (step_told.calls 1 (fun _=>True) _ [] _ _ w wr HBW.out HR5.out (told_f []))
  go_wp2_with (go_at_call 115;(with_reducible refine TC.out.mono ?_);rintro e w5 ⟨v5,rfl,hR,hb5,_⟩;have HR6:=Hd hR;have HB5:=Hd hb5;clear hR hb5)
  go_ret2;exact⟨v5,rfl,Kd.R_mono HR6.out (fun _ _=>trivial),HB5.out⟩
theorem norm_calls (A0:Option Addr) (c0:Nat) (l:List Jp) (w:World) (hr0:Kd.C kJ w A0 l.length l) (hc0:l.length<=c0) (hl:l.length<=1099511627776) :
  Calls Tryz.prog 109 #[.slice A0 l.length c0] w fun e w'=>∃ v,e = .returned (.tuple #[v,.int .i64 (normJ l).2])/\Kd.R kJ 85 w' w.heap.size (fun _=>True) v (normJ l).1/\Below w.heap.size w w':=by
 cases hf:l.any (fun x => !fairB x.f1) with
 | true =>
  rw[normJ_arg hf];exact (norm_arg A0 c0 l w hr0 hl hf).mono fun e w' h=>⟨_,h.1,R_nil _ _,h.2⟩
 | false =>
  cases ht:l.any (fun x=>timeB x.f0) with
  | true =>
   rw[normJ_time hf ht];exact (norm_time A0 c0 l w hr0 hl hf ht).mono fun e w' h=>⟨_,h.1,R_nil _ _,h.2⟩
  | false =>
   rw[normJ_ok hf ht]
   rcases Nat.eq_zero_or_pos l.length with h0 | h0
   ·obtain rfl:=List.eq_nil_of_length_eq_zero h0
    exact (norm_none A0 c0 w hr0).mono fun e w' ⟨v,h1,h2,h3⟩=>⟨v,h1,h2,h3⟩
   ·refine (norm_tail A0 c0 l w hr0 hc0 hl h0 hf ht).mono fun e w' ⟨g,v,hu,hp,h1,h2,h3⟩=>?_
    rw[grp_eq (rowJ_sorted hu) hp] at h1 h2;exact⟨v,h1,h2,h3⟩
end Go.Proofs.YtmkgecapkeojaaaGreat.Stp
end
section
namespace Go.Proofs.YtmkgecapkeojaaaGreat.Rw
open PDa
open RowKit YtmkgecapkeojaaaGreatW.PrintWords YtmkgecapkeojaaaGreatW.PrintLast YtmkgecapkeojaaaGreatW.PrintMore
abbrev Vl:=S65
abbrev kV:=k65
theorem copy_calls (A0:Option Addr) (c0:Nat) (l:List Vl) (w:World) (hr0:Kd.C kV w A0 l.length l) (hl:l.length<=4398046511104) :
  Calls Tryz.prog 127 #[.slice A0 l.length c0] w fun e w'=>∃ v,e = .returned v/\Kd.R kV 65 w' w.heap.size (fun _=>True) v l/\Below w.heap.size w w':=by
 have HR:=Hd hr0;have HL:=Hd hl;clear hr0 hl;obtain⟨i0,hi0,hz0,hz1,hz2⟩:=info_parts info65;go_enter Tryz.func127,Tryz.ntmps127;have hu39:Tryz.prog.underlying 39=some (.slice 65):=by kernel_rfl
 go_wp2_with (at_make;(refine wpList_make_own _ rfl _ _ _ rfl w.heap.size 65 i0 _ 3 hu39 hi0 hz0 hz1 _ _ _ l.length rfl rfl rfl ?b1 ?b2 ?b3 ?_))
 case b1=>have:=HL.out;rw[hz2];omega
 case b2=>have:=HL.out;unfold maxLen;omega
 case b3=>exact Nat.le_refl _
 intro w1 hown hgrow;have HO:=Hd (show Kd.R kV 65 w1 w.heap.size (fun _=>True) (.slice (some ⟨w.heap.size,0,none⟩) 0 l.length) [] from ⟨fun _ _=>trivial,[],hown,Reps.none _ _⟩);have HB1:=Hd (show Below w.heap.size w w1 from ⟨hgrow.os,hgrow.tape,hgrow.output,hgrow.size,fun b hb=>hgrow.block b hb (fun h=>by cases h)⟩);clear hown hgrow;have HR1:=Hd (Kd.C_below HR.out HB1.out)
 go_wp2_with (at_builtin;(refine Kd.R_append_rows kV (w0:=w) w.heap.size rfl _ _ 39 65 (.agg #[(.int .i64 0),(.int .i64 0),(.string ⟨#[]⟩)]) 32 rfl hu39 info65 rfl (by decide) (by omega) _ [] l _ _ _ (fun _=>True) (fun _=>False) rfl rfl HO.out HR1.out (fun _ _ h=>h) (fun _ h=>h.elim) (fun _ _=>trivial) HB1.out HB1.out.size ?aL ?_))
 case aL=>have:=HL.out;simp only[List.length_nil,Nat.zero_add];omega
 intro v2 w2 ho hb hg hat;have HO2:=Hd ho;have HB2:=Hd hb;clear ho hb hg hat;go_wp2;go_ret;exact⟨v2,rfl,HO2.out,HB2.out⟩
attribute [local go_sem high] eqA65
def eqV (x y:Vl):Bool:=(x.f0 == y.f0) && ((x.f1 == y.f1) && (x.f2.toList == y.f2.toList))
def eqR:List Vl->List Vl->Bool
 | [],[]=>true
 | x :: xs,y :: ys=>eqV x y && eqR xs ys
 | _,_=>false
theorem eqR_len:∀ (a b:List Vl),a.length ≠ b.length->eqR a b=false
 | [],[],h=>absurd rfl h
 | [],_ :: _,_=>rfl
 | _ :: _,[],_=>rfl
 | x :: xs,y :: ys,h=>by rw[eqR,eqR_len xs ys (by simpa using h),Bool.and_false]
theorem equal_calls (A0 B0:Option Addr) (c0 d0:Nat) (a b:List Vl) (w:World) (hr0:Kd.C kV w A0 a.length a) (hr1:Kd.C kV w B0 b.length b) (hl:a.length<=4398046511104) (hl2:b.length<=4398046511104) :
  Calls Tryz.prog 156 #[.slice A0 a.length c0,.slice B0 b.length d0] w fun e w'=>e = .returned (.bool (eqR a b))/\Below w.heap.size w w':=by
 have HA:=Hd hr0;have HBb:=Hd hr1;have HL:=Hd hl;have hu65:=Tryz.underlying65;clear hr0 hr1
 by_cases hlen:a.length=b.length
 ·obtain⟨r,hr⟩:∃ r,eqR a b=r:=⟨_,rfl⟩
  rw[hr];have HRR:=Hd hr;clear hr;go_enter Tryz.func156,Tryz.ntmps156;go_wp2
  go_loopw [13] (fun v13 wr=>∃ i:Nat,i<=a.length/\v13 = .int .i64 (i:Int)/\Aside0 (eqR a b=eqR (a.drop i) (b.drop i))/\Aside0 (Below w.heap.size w wr)) (fun v13 wr=>a.length - (intOf v13).toNat)
  case atStart=>exact⟨0,Nat.zero_le _,rfl,⟨rfl⟩,⟨Below.refl _ _⟩⟩
  case round =>
   obtain⟨i,hi,rfl,HE,HB⟩:=hrel
   by_cases hlt:i<a.length
   ·obtain⟨adx,rfl,x0,x1,x2⟩:=at_T65 (Kd.C_below HA.out HB.out) (i:Int) (by omega) (by omega)
    obtain⟨ady,rfl,y0,y1,y2⟩:=at_T65 (Kd.C_below HBb.out HB.out) (i:Int) (by omega) (by omega);have hrx:rd_T65 a (i:Int)=a[i]:=by unfold rd_T65;simp[hlt]
    have hry:rd_T65 b (i:Int)=b[i]:=by unfold rd_T65;simp[show i<b.length by omega]
    have hdx:=List.drop_eq_getElem_cons hlt;have hdy:=List.drop_eq_getElem_cons (show i<b.length by omega);rw[hrx] at x0 x1 x2;rw[hry] at y0 y1 y2;generalize a[i]=X at x0 x1 x2 hdx;generalize b[i]=Y at y0 y1 y2 hdy;have HS:=Hd (show eqR a b=(eqV X Y && eqR (a.drop (i+1)) (b.drop (i+1))) by rw[HE.out,hdx,hdy,eqR]);clear hrx hry hdx hdy;simp only[Int.toNat_natCast] at x0 x1 x2 y0 y1 y2;have x0':=fun p=>SortM.BelowOf.cell x0 p
    have x1':=fun p=>SortM.BelowOf.cell x1 p
    have x2':=fun p=>SortM.BelowOf.cell x2 p
    have y0':=fun p=>SortM.BelowOf.cell y0 p
    have y1':=fun p=>SortM.BelowOf.cell y1 p
    have y2':=fun p=>SortM.BelowOf.cell y2 p
    go_wp2;refine SortM.wp_region_quiet_below (by kernel_rfl) (by kernel_rfl) ?_
    repeat (go_big_quiet_step (exact SortM.below_calls (CM.out _)))
    refine wpQuiet_nil ?_;intro wq hw1;have HWQ:=Hd (show Below wr.heap.size wr wq by obtain⟨p,rfl⟩:=hw1;exact p.h);clear hw1 x0' x1' x2' y0' y1' y2' x0 x1 x2 y0 y1 y2;have HB2:=Hd (HB.out.trans (HWQ.out.mono HB.out.size));have hb:(!X.f0 == Y.f0 || (!X.f1 == Y.f1 || !X.f2.toList == Y.f2.toList)) = !eqV X Y:=by simp[eqV,Bool.not_and]
    rw[hb];cases hv:eqV X Y with
    | true =>
     have HS2:=Hd (show eqR a b=eqR (a.drop (i+1)) (b.drop (i+1)) by rw[HS.out,hv,Bool.true_and]);clear hb hv;go_wp2;go_roundw
     case rel=>exact⟨i+1,by omega,by go_num,⟨HS2.out⟩,⟨HB2.out⟩⟩
     case measure=>simp[intOf];omega
    | false =>
     have HS2:=Hd (show r=false by rw[<- HRR.out,HS.out,hv,Bool.false_and]);clear hb hv;go_wp2;go_ret;exact⟨by rw[HS2.out];rfl,HB2.out⟩
   ·obtain rfl:i=a.length:=by omega
    have HS2:=Hd (show r=true by rw[<- HRR.out,HE.out,List.drop_length,hlen,List.drop_length];rfl);go_wp2;go_ret;exact⟨by rw[HS2.out];rfl,HB.out⟩
 ·rw[eqR_len a b hlen]
  go_enter Tryz.func156,Tryz.ntmps156;go_wp2;go_ret;exact⟨rfl,Below.refl _ _⟩
theorem same_calls (A0 B0:Option Addr) (c0 d0:Nat) (a b:List Vl) (w:World) (hr0:Kd.C kV w A0 a.length a) (hr1:Kd.C kV w B0 b.length b) (hl:a.length<=4398046511104) (hl2:b.length<=4398046511104) :
  Calls Tryz.prog 126 #[.slice A0 a.length c0,.slice B0 b.length d0] w fun e w'=>e = .returned (.bool (eqR a b))/\Below w.heap.size w w':=by
 have C:=Hd (equal_calls A0 B0 c0 d0 a b w hr0 hr1 hl hl2);clear hr0 hr1;go_enter Tryz.func126,Tryz.ntmps126
 go_wp2_with (go_at_call 156;((with_reducible refine C.out.mono ?_);rintro e w' ⟨rfl,hb⟩;have HB:=Hd hb;clear hb))
 go_ret;exact⟨rfl,HB.out⟩
theorem eqR_iff:∀ (a b:List Vl),eqR a b=true ↔ a=b
 | [],[]=>by simp[eqR]
 | [],_ :: _=>by simp[eqR]
 | _ :: _,[]=>by simp[eqR]
 | x :: xs,y :: ys=>by
  rw[eqR,Bool.and_eq_true,eqR_iff xs ys];have:eqV x y=true ↔ x=y:=by
   obtain⟨a1,a2,a3⟩:=x;obtain⟨b1,b2,b3⟩:=y;have h3:(a3.toList == b3.toList)=true ↔ a3=b3:=by
    rw[<- beq_toListBytes];obtain⟨⟨u⟩⟩:=a3;obtain⟨⟨v⟩⟩:=b3
    show ((⟨u⟩:Array UInt8) == ⟨v⟩)=true ↔ _
    rw[beq_iff_eq];exact⟨fun h=>congrArg ByteArray.mk h,fun h=>congrArg ByteArray.data h⟩
   simp only[eqV,Bool.and_eq_true,beq_iff_eq,S65.mk.injEq] at h3 ⊢;rw[h3]
  rw[this,List.cons.injEq]
end Go.Proofs.YtmkgecapkeojaaaGreat.Rw
end
section
namespace Go.Proofs.YtmkgecapkeojaaaGreat.Rw
open PDa
open RowKit YtmkgecapkeojaaaGreatW.PrintWords YtmkgecapkeojaaaGreatW.PrintLast YtmkgecapkeojaaaGreatW.PrintMore
open SortM Run
attribute [local go_sem high] eqA65
theorem addB (a:Addr) (n:Nat):(a.add n).block=a.block:=by unfold Addr.add;split <;> rfl
theorem C_block {w W:World} {A:Option Addr} {n:Nat} {xs:List Vl} (h:Kd.C kV w A n xs) (hk:0<n -> ∀ ad,A=some ad->ad.block<w.heap.size->W.heap[ad.block]? = w.heap[ad.block]?):Kd.C kV W A n xs:=by
 refine⟨h.1,h.2.1,fun hn=>?_⟩;obtain⟨ad,e,hc⟩:=h.2.2 hn;refine⟨ad,e,fun j p hj=>?_⟩;obtain⟨c,hs,hr,hcell⟩:=hc j p hj;refine⟨c,hs,hr,fun i u hu=>?_⟩;have h1:=hcell i u hu;have hlt:=World.block_lt_of_cell? w _ h1;rw[addB] at hlt;refine (World.cell?_of_block (w:=w) ?_).trans h1;rw[addB];exact hk hn ad e hlt
theorem C_step {w W:World} {B:Nat} {A:Option Addr} {n:Nat} {xs:List Vl} (h:Kd.C kV w A n xs) (hs:Step (OnlyB B) (OnlyB B) w W) (hA:0<n -> ∀ g,A.map (·.block)=some g->g ≠ B):Kd.C kV W A n xs :=
 C_block h fun hn ad e hlt=>hs.keep _ hlt (fun h'=>hA hn _ (by rw[e];rfl) h')
theorem take_snoc {α:Type} {a b:List α} {k:Nat} (h:a.take k=b.take k) (ha:k<a.length) (hb:k<b.length) (e:a[k]=b[k]):a.take (k+1)=b.take (k+1):=by
 rw[List.take_add_one,List.take_add_one,h,List.getElem?_eq_getElem ha,List.getElem?_eq_getElem hb,e]
theorem eqV_iff (x y:Vl):eqV x y=true ↔ x=y:=by
 have:=eqR_iff [x] [y]
 simpa [eqR] using this
theorem cmp11_calls (bi bb:Nat) (B0:Option Addr) (d0:Nat) (x:Vl) (b:List Vl) (i:Nat) (w:World) (hi:i<b.length) (hl:b.length<=1099511627776) (hne:bi ≠ bb)
  (h1:w.heap[bi]? = some (.cells #[.int .i64 ((i:Int) - 1)] 3 (0,0))) (h2:w.heap[bb]? = some (.cells #[.slice B0 b.length d0] 39 (0,0))) (hr:Kd.C kV w B0 b.length b) (hnb:0<b.length -> ∀ g,B0.map (·.block)=some g->g ≠ bi) :
  Calls Tryz.prog 143 #[.agg #[.int .i64 x.f0,.int .i64 x.f1,.string x.f2],.pointer (some ⟨bi,0,none⟩),.pointer (some ⟨bb,0,none⟩)] w fun e w' =>
   e = .returned (.bool (!eqV x b[i]))/\w'.heap[bi]? = some (.cells #[.int .i64 (i:Int)] 3 (0,0))/\Step (OnlyB bi) (OnlyB bi) w w':=by
 have hu65:=Tryz.underlying65;have e1:=Hd (blk_below h1 (below_alloc (Below.refl _ w) (.cells #[.int .i64 x.f0,.int .i64 x.f1,.string x.f2] 65 (0,0))));obtain⟨ady,rfl,y0,y1,y2⟩:=at_T65 hr (i:Int) (by omega) (by omega);have hry:rd_T65 b (i:Int)=b[i]:=by unfold rd_T65;simp[hi]
 rw[hry] at y0 y1 y2;generalize b[i]=Y at y0 y1 y2 ⊢;simp only[Int.toNat_natCast] at y0 y1 y2;have hnb':=hnb (by omega) _ rfl;have Y0:=Hd y0;have Y1:=Hd y1;have Y2:=Hd y2;have H2:=Hd h2;have H1:=Hd h1;have f1:=fun (p:BelowOf (w.alloc (.cells #[.int .i64 x.f0,.int .i64 x.f1,.string x.f2] 65 (0,0))))=>blk_cell (blk_below e1.out p.h) 0
 have q1:IntKind.i64.wrap ((i:Int) - 1+1)=(i:Int):=by rw[IntKind.wrap_i64];omega
 have c0:=blk_cell e1.out 0;have z0:=blk_frozen e1.out 0;simp only[List.getElem?_toArray,List.getElem?_cons_zero] at c0;clear hr y0 y1 y2 h1 h2 f1 hry;go_enter Tryz.func143,Tryz.ntmps143;go_wp2;have hS0:=step_set (w.alloc (.cells #[.int .i64 x.f0,.int .i64 x.f1,.string x.f2] 65 (0,0))) bi 0 (.int .i64 (i:Int));have g1:=(blk_set e1.out 0 (.int .i64 (i:Int)))
 have hxw:w.heap.size ≠ bi:=fun h=>by have:=blk_lt H1.out;omega
 generalize hws:(w.alloc (.cells #[.int .i64 x.f0,.int .i64 x.f1,.string x.f2] 65 (0,0))).setCell ⟨bi,0,none⟩ (.int .i64 (i:Int))=ws at hS0 g1 ⊢;have hS1:Step (OnlyB bi) (OnlyB bi) w ws:=(step_below (below_alloc (Below.refl _ w) _)).trans hS0;have k0:ws.heap[w.heap.size]? = some (.cells #[.int .i64 x.f0,.int .i64 x.f1,.string x.f2] 65 (0,0)):=(hS0.keep _ (by rw[World.size_alloc];omega) (fun h=>hxw h)).trans (blk_new w _);have k1:ws.heap[bb]? = some (.cells #[.slice (some ady) b.length d0] 39 (0,0)):=(hS1.keep _ (blk_lt H2.out) (fun h=>hne h.symm)).trans H2.out;have ycell:∀ (p:Addr) (u:Value),p.block=ady.block->w.cell? p=some u->ws.cell? p=some u:=fun p u hp h=>(World.cell?_of_block (hS1.keep p.block (World.block_lt_of_cell? w _ h) (fun h'=>hnb' (hp.symm.trans h')))).trans h
 have y0:=ycell _ _ (by exact addB _ _) Y0.out;have y1:=ycell _ _ (by exact addB _ _) Y1.out;have y2:=ycell _ _ (by exact addB _ _) Y2.out;have HS1:=Hd hS1;have HG1:=Hd g1;have x0':=fun p=>BelowOf.cell y0 p
 have x1':=fun p=>BelowOf.cell y1 p
 have x2':=fun p=>BelowOf.cell y2 p
 have n0':=fun (p:BelowOf ws)=>(blk_cell (blk_below k0 p.h) 0).trans (show _=some (.int .i64 x.f0) from rfl)
 have n1':=fun (p:BelowOf ws)=>(blk_cell (blk_below k0 p.h) 1).trans (show _=some (.int .i64 x.f1) from rfl)
 have n2':=fun (p:BelowOf ws)=>(blk_cell (blk_below k0 p.h) 2).trans (show _=some (.string x.f2) from rfl)
 have m0':=fun (p:BelowOf ws)=>(blk_cell (blk_below k1 p.h) 0).trans (show _=some (.slice (some ady) b.length d0) from rfl)
 have i0':=fun (p:BelowOf ws)=>(blk_cell (blk_below g1 p.h) 0).trans (show _=some (.int .i64 (i:Int)) from rfl)
 clear ycell y0 y1 y2 k0 k1 g1 hws hS0 hS1 c0 z0 q1;refine wp_region_quiet_below (by kernel_rfl) (by kernel_rfl) ?_
 repeat (go_big_quiet_step (exact below_calls (CM.out _)))
 try refine wpQuiet_nil ?_
 intro wq hw1;have HWQ:=Hd (show Below ws.heap.size ws wq by obtain⟨p,rfl⟩:=hw1;exact p.h);have hb:(!x.f0 == Y.f0 || (!x.f1 == Y.f1 || !x.f2.toList == Y.f2.toList)) = !eqV x Y:=by simp[eqV,Bool.not_and]
 rw[hb];clear hw1 x0' x1' x2' n0' n1' n2' m0' i0' hb;have HQ:=Hd (blk_below HG1.out HWQ.out);have HSQ:=Hd (HS1.out.trans (step_below HWQ.out));go_wp2;go_ret;exact⟨rfl,HQ.out.trans rfl,HSQ.out⟩
theorem ixr_calls (bi bb:Nat) (A0 B0:Option Addr) (c0 d0 n:Nat) (a b:List Vl) (w:World) (hna:n<=a.length) (hnb0:n<=b.length) (hl:b.length<=1099511627776) (hla:a.length<=1099511627776) (hne:bi ≠ bb)
  (h1:w.heap[bi]? = some (.cells #[.int .i64 (-1)] 3 (0,0))) (h2:w.heap[bb]? = some (.cells #[.slice B0 b.length d0] 39 (0,0))) (hra:Kd.C kV w A0 a.length a) (hrb:Kd.C kV w B0 b.length b)
  (hna':0<a.length -> ∀ g,A0.map (·.block)=some g->g ≠ bi) (hnb:0<b.length -> ∀ g,B0.map (·.block)=some g->g ≠ bi) :
  Calls Tryz.prog 141 #[.slice A0 n c0,.func (.func 143) #[] #[.pointer (some ⟨bi,0,none⟩),.pointer (some ⟨bb,0,none⟩)]] w fun e w' =>
   ((e = .returned (.int .i64 (-1))/\a.take n=b.take n)\/(∃ (k:Nat) (x y:Vl),e = .returned (.int .i64 (k:Int))/\k<n/\a.take k=b.take k/\a[k]? = some x/\b[k]? = some y/\eqV x y=false))/\Step (OnlyB bi) (OnlyB bi) w w':=by
 have HA:=Hd hra;have HBb:=Hd hrb;have H1:=Hd h1;have H2:=Hd h2;have NA:=Hd hna';have NB:=Hd hnb;clear hra hrb h1 h2 hna' hnb;go_enter Tryz.func141,Tryz.ntmps141;go_wp2
 go_loopw [8] (fun v8 wr=>∃ k:Nat,k<=n/\v8 = .int .i64 (k:Int)/\Aside0 (a.take k=b.take k)/\Aside0 (wr.heap[bi]? = some (.cells #[.int .i64 ((k:Int) - 1)] 3 (0,0)))/\Aside0 (Step (OnlyB bi) (OnlyB bi) w wr)) (fun v8 wr=>n - (intOf v8).toNat)
 case atStart=>exact⟨0,by omega,rfl,⟨by simp⟩,⟨H1.out⟩,⟨Step.refl _ _⟩⟩
 case round =>
  obtain⟨k,hk,rfl,HT,HBI,HS⟩:=hrel
  by_cases hlt:k<n
  ·have ha:k<a.length:=by omega
   have hb:k<b.length:=by omega
   have P:=Hd (cmp11_calls bi bb B0 d0 a[k] b k wr hb hl hne HBI.out ((HS.out.keep _ (blk_lt H2.out) (fun h=>hne h.symm)).trans H2.out) (C_step HBb.out HS.out NB.out) NB.out);obtain⟨ad,e1,x0,x1,x2⟩:=at_T65 (C_step HA.out HS.out NA.out) (k:Int) (by omega) (by omega);have hrx:rd_T65 a (k:Int)=a[k]:=by unfold rd_T65;simp[ha]
   rw[hrx] at x0 x1 x2;have hta:=Hd (fun e=>take_snoc HT.out ha hb e);have hxa:=Hd (List.getElem?_eq_getElem ha);have hyb:=Hd (List.getElem?_eq_getElem hb);generalize a[k]=X at P x0 x1 x2 hta hxa;generalize b[k]=Y at P hta hyb;simp only[Int.toNat_natCast] at x0 x1 x2;cases e1;clear hrx ha hb;cases hv:eqV X Y with
   | true =>
    have hxy:=Hd ((eqV_iff X Y).1 hv);rw[hv] at P;clear hv
    go_wp2_with ((with_reducible refine P.out.mono ?_);rintro e w1 ⟨rfl,hbi,hs⟩;have HBI2:=Hd hbi;have HS2:=Hd (HS.out.trans hs);clear hbi hs)
    go_roundw
    case rel=>exact⟨k+1,by omega,by go_num,⟨hta.out hxy.out⟩,⟨by rw[HBI2.out];simp⟩,⟨HS2.out⟩⟩
    case measure=>simp[intOf];omega
   | false =>
    rw[hv] at P;have hv':=Hd hv;clear hv
    go_wp2_with ((with_reducible refine P.out.mono ?_);rintro e w1 ⟨rfl,hbi,hs⟩;have HS2:=Hd (HS.out.trans hs);clear hbi hs)
    go_ret;exact⟨.inr ⟨k,X,Y,rfl,hlt,HT.out,hxa.out,hyb.out,hv'.out⟩,HS2.out⟩
  ·obtain rfl:k=n:=by omega
   go_wp2;go_ret;exact⟨.inl ⟨rfl,HT.out⟩,HS.out⟩
end Go.Proofs.YtmkgecapkeojaaaGreat.Rw
end
