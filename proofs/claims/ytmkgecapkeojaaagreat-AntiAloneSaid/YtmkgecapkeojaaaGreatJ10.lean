/- Texts of this claim, put together by a program: SortE, SymE, StabE, NilE, NormE, NormF, Build, Filter, PlB, PlC, Become, Proj. -/
import Derived.Test.YtmkgecapkeojaaaGreatJ9
import Derived.BigRegion
import Derived.RegionTactic
import Derived.ChangeAlike
import Derived.Deep.QuietTactic
import Derived.BigQuiet
import Derived.Deep.DeepCutAuto
set_option linter.unusedVariables false
set_option linter.unusedSimpArgs false
set_option maxHeartbeats 8000000
set_option maxRecDepth 100000
section
namespace Go.Proofs.YtmkgecapkeojaaaGreat.SortE
open Go RowKit YtmkgecapkeojaaaGreatW.PrintWords YtmkgecapkeojaaaGreatW.PrintLast YtmkgecapkeojaaaGreatW.PrintMore
open Run SortP SortM PDa
structure El where
 A:Option Addr
 c:Nat
 row:List S65
 at':Int
 net:Int
def enc (x:El):List Value:=[.slice x.A x.row.length x.c,.int .i64 x.at',.int .i64 x.net]
theorem enc_len (x:El):(enc x).length=3:=rfl
theorem swapRange_calls (blk cap n:Nat) (g:Nat->El) (fn:Nat) (lb:Array Value) (a b q:Nat) (w:World) (hH:Holds enc 3 w blk 41 n g) (hab:a+q<=b) (hb:b+q<=n) (hn:n<=17592186044416) :
  Calls Tryz.prog 192 #[.slice (some ⟨blk,0,none⟩) n cap,.int .i64 (a:Int),.int .i64 (b:Int),.int .i64 (q:Int),.func (.func fn) #[] lb] w fun e w' =>
   e = .returned (.tuple #[])/\Holds enc 3 w' blk 41 n (swr g a b q)/\Step (OnlyB blk) (OnlyB blk) w w'/\(row (swr g a b q) n).Perm (row g n):=by
 have HH:=Hd hH;have HAB:=Hd hab;clear hH;go_enter Tryz.func192,Tryz.ntmps192;go_wp2
 go_loopw [10] (fun v10 wr=>∃ i:Nat,i<=q/\v10 = .int .i64 (i:Int)/\Aside0 (Holds enc 3 wr blk 41 n (swr g a b i))/\Aside0 (Step (OnlyB blk) (OnlyB blk) w wr)/\Aside0 ((row (swr g a b i) n).Perm (row g n))) (fun v10 wr=>q - (intOf v10).toNat)
 case atStart=>exact⟨0,by omega,rfl,⟨by rw[swr_zero];exact HH.out⟩,⟨Step.refl _ _⟩,⟨by rw[swr_zero]⟩⟩
 case round =>
  obtain⟨i,hi,rfl,HO,HS,HP⟩:=hrel
  by_cases ci:i<q
  ·obtain⟨p,hp⟩:∃ p,a+i=p:=⟨_,rfl⟩
   obtain⟨r,hr⟩:∃ r,b+i=r:=⟨_,rfl⟩
   obtain⟨X,hX⟩:∃ X,swr g a b i p=X:=⟨_,rfl⟩
   obtain⟨Y,hY⟩:∃ Y,swr g a b i r=Y:=⟨_,rfl⟩
   have hpn:p<n:=by omega
   have hrn:r<n:=by omega
   have hx:=fun j u h=>HO.out.cell (i:=p) (j:=j) (u:=u) hpn h
   have hy:=fun j u h=>HO.out.cell (i:=r) (j:=j) (u:=u) hrn h
   rw[hX] at hx;rw[hY] at hy;have x0:=hx 0 _ rfl;rw[Nat.add_zero] at x0;have x1:=hx 1 _ rfl;have x2:=hx 2 _ rfl;have y0:=hy 0 _ rfl;rw[Nat.add_zero] at y0;have y1:=hy 1 _ rfl;have y2:=hy 2 _ rfl;have e1:IntKind.i64.wrap ((a:Int)+(i:Int))=(p:Int):=by rw[IntKind.wrap_i64];omega
   have e2:IntKind.i64.wrap ((b:Int)+(i:Int))=(r:Int):=by rw[IntKind.wrap_i64];omega
   have l1:(p:Int)<(n:Int):=by omega
   have l2:(r:Int)<(n:Int):=by omega
   have HX:=Hd hX;have HY:=Hd hY;have HPE:=Hd hp;have HRE:=Hd hr;have HPN:=Hd hpn;have HRN:=Hd hrn;have hu:=Tryz.underlying41;have fz:=HO.out.frozen;have z1:(wr.setCell ⟨blk,p*3,none⟩ (.slice Y.A Y.row.length Y.c)).cell? ⟨blk,p*3+1,none⟩=some (.int .i64 X.at'):=(far_cell x1 zq4 (.slice Y.A Y.row.length Y.c))
   have z2:((wr.setCell ⟨blk,p*3,none⟩ (.slice Y.A Y.row.length Y.c)).setCell ⟨blk,p*3+1,none⟩ (.int .i64 Y.at')).cell? ⟨blk,p*3+2,none⟩=some (.int .i64 X.net):=(far_cell (far_cell x2 zq4 (.slice Y.A Y.row.length Y.c)) zq4 (.int .i64 Y.at'))
   have t0:(((wr.setCell ⟨blk,p*3,none⟩ (.slice Y.A Y.row.length Y.c)).setCell ⟨blk,p*3+1,none⟩ (.int .i64 Y.at')).setCell ⟨blk,p*3+2,none⟩ (.int .i64 Y.net)).cell? ⟨blk,r*3,none⟩=some (.slice Y.A Y.row.length Y.c):=(far_cell (far_cell (far_cell y0 zq4 (.slice Y.A Y.row.length Y.c)) zq4 (.int .i64 Y.at')) zq4 (.int .i64 Y.net))
   have t1:((((wr.setCell ⟨blk,p*3,none⟩ (.slice Y.A Y.row.length Y.c)).setCell ⟨blk,p*3+1,none⟩ (.int .i64 Y.at')).setCell ⟨blk,p*3+2,none⟩ (.int .i64 Y.net)).setCell ⟨blk,r*3,none⟩ (.slice X.A X.row.length X.c)).cell? ⟨blk,r*3+1,none⟩=some (.int .i64 Y.at'):=(far_cell (far_cell (far_cell (far_cell y1 zq4 (.slice Y.A Y.row.length Y.c)) zq4 (.int .i64 Y.at')) zq4 (.int .i64 Y.net)) zq4 (.slice X.A X.row.length X.c))
   have t2:(((((wr.setCell ⟨blk,p*3,none⟩ (.slice Y.A Y.row.length Y.c)).setCell ⟨blk,p*3+1,none⟩ (.int .i64 Y.at')).setCell ⟨blk,p*3+2,none⟩ (.int .i64 Y.net)).setCell ⟨blk,r*3,none⟩ (.slice X.A X.row.length X.c)).setCell ⟨blk,r*3+1,none⟩ (.int .i64 X.at')).cell? ⟨blk,r*3+2,none⟩=some (.int .i64 Y.net):=(far_cell (far_cell (far_cell (far_cell (far_cell y2 zq4 (.slice Y.A Y.row.length Y.c)) zq4 (.int .i64 Y.at')) zq4 (.int .i64 Y.net)) zq4 (.slice X.A X.row.length X.c)) zq4 (.int .i64 X.at'))
   clear hx hy hX hY hp hr hpn hrn;go_wp2
   go_region
   have HO2:=Hd ((HO.out.exch3 enc_len HPN.out HRN.out (show enc _=_ by rw[HX.out];rfl) (show enc _=_ by rw[HY.out];rfl)).drew);have HS2:=Hd (HS.out.trans (step_drew _ (step_exch3 wr blk (p*3) (p*3+1) (p*3+2) (r*3) (r*3+1) (r*3+2) (.slice Y.A Y.row.length Y.c) (.int .i64 Y.at') (.int .i64 Y.net) (.slice X.A X.row.length X.c) (.int .i64 X.at') (.int .i64 X.net))));have HG:=Hd (show exch (swr g a b i) p r=swr g a b (i+1) by rw[<- HPE.out, <- HRE.out];exact swr_step g a b i (by have:=HAB.out;omega));have HP2:=Hd ((exch_perm (swr g a b i) n p r HPN.out HRN.out).trans HP.out);rw[HG.out] at HO2 HP2;go_wp2;go_roundw
   case rel=>exact⟨i+1,by omega,by go_num,⟨HO2.out⟩,⟨HS2.out⟩,⟨HP2.out⟩⟩
   case measure=>simp[intOf];omega
  ·obtain rfl:i=q:=by omega
   go_wp2
   go_end0
   exact⟨rfl,HO.out,HS.out,HP.out⟩
theorem rotate_calls (blk cap n:Nat) (g:Nat->El) (fn:Nat) (lb:Array Value) (a m b:Nat) (w:World) (hH:Holds enc 3 w blk 41 n g) (ham:a<m) (hmb:m<b) (hb:b<=n) (hn:n<=17592186044416) :
  Calls Tryz.prog 187 #[.slice (some ⟨blk,0,none⟩) n cap,.int .i64 (a:Int),.int .i64 (m:Int),.int .i64 (b:Int),.func (.func fn) #[] lb] w fun e w' =>
   e = .returned (.tuple #[]) /\ ∃ g',Holds enc 3 w' blk 41 n g'/\Turned g g' a m b/\Step (OnlyB blk) (OnlyB blk) w w'/\(row g' n).Perm (row g n):=by
 have HH:=Hd hH;clear hH;have e0:(m:Int) - (a:Int)=((m - a:Nat):Int):=by omega
 have e1:(b:Int) - (m:Int)=((b - m:Nat):Int):=by omega
 go_enter Tryz.func187,Tryz.ntmps187;go_wp2
 go_loopw [10,11] (fun v10 v11 wr=>∃ (i j:Nat) (g':Nat->El),0<i/\0<j/\i<=m - a/\j<=b - m/\v10 = .int .i64 (i:Int)/\v11 = .int .i64 (j:Int)/\Aside0 (Turn g g' a m b i j)/\Aside0 (Holds enc 3 wr blk 41 n g')/\Aside0 (Step (OnlyB blk) (OnlyB blk) w wr)/\Aside0 ((row g' n).Perm (row g n))) (fun v10 v11 wr=>(intOf v10).toNat+(intOf v11).toNat)
 case atStart=>exact⟨m - a,b - m,g,by omega,by omega,by omega,by omega,rfl,rfl,⟨turn_start g a m b zq4 zq4⟩,⟨HH.out⟩,⟨Step.refl _ _⟩,⟨List.Perm.refl _⟩⟩
 case round =>
  obtain⟨i,j,g',hi0,hj0,hi,hj,rfl,rfl,HT,HO,HS,HP⟩:=hrel;obtain⟨p,hp⟩:∃ p,m - i=p:=⟨_,rfl⟩
  have e2:(m:Int) - (i:Int)=(p:Int):=by omega
  clear e0 e1
  rcases Nat.lt_trichotomy i j with c | c | c
  ·have b1:((i:Int) != (j:Int))=true:=by simp;omega
   have b2:decide ((i:Int) > (j:Int))=false:=DEF zq4;obtain⟨r,hr⟩:∃ r,m+j - i=r:=⟨_,rfl⟩
   have e3:(m:Int)+(j:Int) - (i:Int)=(r:Int):=by omega
   go_wp2_with (go_at_call 192;(with_reducible refine (swapRange_calls blk cap n g' fn lb p r i _ HO.out ?HOa ?HOb ?HOc).mono ?_);(case HOa=>omega);(case HOb=>omega);(case HOc=>omega);rintro e w' ⟨rfl,h1,h2,h3⟩;have HO1:=Hd h1;have HO2:=Hd h2;have HO3:=Hd h3;clear h1 h2 h3)
   go_roundw
   case rel =>
    refine⟨i,j - i,_,by omega,by omega,by omega,by omega,rfl,by rw[show ((j - i:Nat):Int)=(j:Int) - (i:Int) by omega],⟨?_⟩,⟨HO1.out⟩,⟨HS.out.trans HO2.out⟩,⟨HO3.out.trans HP.out⟩⟩;rw[<- hp, <- hr];exact turn_less g g' a m b i j HT.out c hi0
   case measure=>simp[intOf];omega
  ·subst c
   have b1:((i:Int) != (i:Int))=false:=by simp
   go_wp2_with (go_at_call 192;(with_reducible refine (swapRange_calls blk cap n g' fn lb p m i _ HO.out ?HQa ?HQb ?HQc).mono ?_);(case HQa=>omega);(case HQb=>omega);(case HQc=>omega);rintro e w' ⟨rfl,h1,h2,h3⟩;have HO1:=Hd h1;have HO2:=Hd h2;have HO3:=Hd h3;clear h1 h2 h3)
   go_end0
   exact⟨rfl,_,HO1.out,by rw[<- hp];exact turn_end g g' a m b i HT.out,HS.out.trans HO2.out,HO3.out.trans HP.out⟩
  ·have b1:((i:Int) != (j:Int))=true:=by simp;omega
   have b2:decide ((i:Int) > (j:Int))=true:=DET zq4
   go_wp2_with (go_at_call 192;(with_reducible refine (swapRange_calls blk cap n g' fn lb p m j _ HO.out ?HRa ?HRb ?HRc).mono ?_);(case HRa=>omega);(case HRb=>omega);(case HRc=>omega);rintro e w' ⟨rfl,h1,h2,h3⟩;have HO1:=Hd h1;have HO2:=Hd h2;have HO3:=Hd h3;clear h1 h2 h3)
   go_roundw
   case rel =>
    refine⟨i - j,j,_,by omega,by omega,by omega,by omega,by rw[show ((i - j:Nat):Int)=(i:Int) - (j:Int) by omega],rfl,⟨?_⟩,⟨HO1.out⟩,⟨HS.out.trans HO2.out⟩,⟨HO3.out.trans HP.out⟩⟩;rw[<- hp];exact turn_more g g' a m b i j HT.out c hj0
   case measure=>simp[intOf];omega
theorem insertion_calls (cf:El->El->Int) (o:Ord cf) (OK:El->Prop) (blk cap n:Nat) (g:Nat->El) (fn:Nat) (a b:Nat) (w:World) (hH:Holds enc 3 w blk 41 n g) (hok:∀ i,i<n->OK (g i)) (hab:a<=b) (hb:b<=n) (hn:n<=17592186044416)
  (hfn:∀ args w,(callFunc fn args).run Tryz.prog w = .ok (.enter fn args) w) (hcmp:∀ (x y:El) (w1:World),OK x->OK y->Step (OnlyB blk) (OnlyB blk) w w1->Calls Tryz.prog fn #[.agg #[.slice x.A x.row.length x.c,.int .i64 x.at',.int .i64 x.net],.agg #[.slice y.A y.row.length y.c,.int .i64 y.at',.int .i64 y.net]] w1 fun e w'=>e = .returned (.int .i64 (cf x y))/\Below w1.heap.size w1 w') :
  Calls Tryz.prog 166 #[.slice (some ⟨blk,0,none⟩) n cap,.int .i64 (a:Int),.int .i64 (b:Int),.func (.func fn) #[] #[]] w fun e w' =>
   e = .returned (.tuple #[]) /\ ∃ g',Holds enc 3 w' blk 41 n g'/\Up cf g' a b/\SameOn g g' a b/\Step (OnlyB blk) (OnlyB blk) w w'/\(row g' n).Perm (row g n):=by
 have HH:=Hd hH;have HOK:=Hd hok;have HC:=Hd hcmp;clear hH hok hcmp;go_enter Tryz.func166,Tryz.ntmps166;go_wp2
 go_loopw [8] (fun v8 wr=>∃ (i:Nat) (g':Nat->El),a<i/\i<=b+1/\v8 = .int .i64 (i:Int)/\Aside0 (Up cf g' a i\/b<=a)/\Aside0 (SameOn g g' a b)/\Aside0 (Holds enc 3 wr blk 41 n g')/\Aside0 (Step (OnlyB blk) (OnlyB blk) w wr)/\Aside0 ((row g' n).Perm (row g n))) (fun v8 wr=>b+1 - (intOf v8).toNat)
 case atStart=>exact⟨a+1,g,by omega,by omega,by go_num,⟨.inl (Up.one cf g a (a+1) zq4)⟩,⟨SameOn.refl g a b⟩,⟨HH.out⟩,⟨Step.refl _ _⟩,⟨List.Perm.refl _⟩⟩
 case round =>
  obtain⟨i,g',hai,hib,rfl,HU,HSM,HO,HS,HP⟩:=hrel
  by_cases ci:i<b
  ·have HU2:=Hd (show Up cf g' a i from HU.out.resolve_right zq4)
   go_wp2
   go_loopw [9] (fun v9 wr2=>∃ (j:Nat) (g2:Nat->El),a<=j/\j<=i/\v9 = .int .i64 (j:Int)/\Aside0 (Ins cf g2 a i j)/\Aside0 (SameOn g g2 a b)/\Aside0 (Holds enc 3 wr2 blk 41 n g2)/\Aside0 (Step (OnlyB blk) (OnlyB blk) w wr2)/\Aside0 ((row g2 n).Perm (row g n))) (fun v9 wr2=>(intOf v9).toNat)
   case atStart=>exact⟨i,g',by omega,by omega,rfl,⟨ins_start HU2.out⟩,⟨HSM.out⟩,⟨HO.out⟩,⟨HS.out⟩,⟨HP.out⟩⟩
   case round =>
    obtain⟨j,g2,haj,hji,rfl,HI,HSM2,HO2,HS2,HP2⟩:=hrel
    by_cases cj:a<j
    ·obtain⟨r,hr⟩:∃ r,j=r+1:=⟨j - 1,by omega⟩
     have hpn:j<n:=by omega
     have hrn:r<n:=by omega
     obtain⟨X,hX⟩:∃ X,g2 j=X:=⟨_,rfl⟩
     obtain⟨Y,hY⟩:∃ Y,g2 r=Y:=⟨_,rfl⟩
     have hx:=fun j' u h=>HO2.out.cell (i:=j) (j:=j') (u:=u) hpn h
     have hy:=fun j' u h=>HO2.out.cell (i:=r) (j:=j') (u:=u) hrn h
     rw[hX] at hx;rw[hY] at hy;have x0:=hx 0 _ rfl;rw[Nat.add_zero] at x0;have x1:=hx 1 _ rfl;have x2:=hx 2 _ rfl;have y0:=hy 0 _ rfl;rw[Nat.add_zero] at y0;have y1:=hy 1 _ rfl;have y2:=hy 2 _ rfl;have okk:∀ q,q<n->OK (g2 q):=fun q hq=>by
      by_cases c:a<=q/\q<b
      ·obtain⟨z,z1,z2,e⟩:=HSM2.out.2 q c.1 c.2
       rw[e];exact HOK.out z zq4
      ·rw[HSM2.out.1 q zq4];exact HOK.out q hq
     have CM:=Hd (fun (p:BelowOf wr)=>HC.out X Y p.W (hX ▸ okk j hpn) (hY ▸ okk r hrn) (HS2.out.trans (Step.of_below p.h)));have e1:IntKind.i64.wrap ((j:Int) - 1)=(r:Int):=by rw[IntKind.wrap_i64];omega
     have e2:(j:Int) - 1=(r:Int):=by omega
     have l1:(j:Int)<(n:Int):=by omega
     have l2:(r:Int)<(n:Int):=by omega
     have bg:decide ((j:Int) > (a:Int))=true:=DET zq4;have bg':(a:Int)<(j:Int):=by omega
     have hu:=Tryz.underlying41;obtain⟨cv,hcv⟩:∃ cv,cf X Y=cv:=⟨_,rfl⟩
     rw[hcv] at CM;have x0':=fun p=>BelowOf.cell x0 p
     have x1':=fun p=>BelowOf.cell x1 p
     have x2':=fun p=>BelowOf.cell x2 p
     have y0':=fun p=>BelowOf.cell y0 p
     have y1':=fun p=>BelowOf.cell y1 p
     have y2':=fun p=>BelowOf.cell y2 p
     have HX:=Hd hX;have HY:=Hd hY;have HCV:=Hd hcv;have HR:=Hd hr;have HPN:=Hd hpn;have HRN:=Hd hrn
     by_cases hc:cv<0
     ·have bc:decide (cv<0)=true:=DET hc
      clear hx hy hX hY hcv hr hpn hrn okk;go_wp2;refine wp_region_quiet_below zq17 zq17 ?_
      repeat (go_big_quiet_step (exact below_calls (CM.out _)))
      refine wpQuiet_nil ?_;intro wq hw1;have hwq:Below wr.heap.size wr wq:=by obtain⟨p,rfl⟩:=hw1;exact p.h
      clear hw1;have HWQ:=Hd hwq;have x0:=pw_cell_below HWQ.out x0;have x1:=pw_cell_below HWQ.out x1;have x2:=pw_cell_below HWQ.out x2;have y0:=pw_cell_below HWQ.out y0;have y1:=pw_cell_below HWQ.out y1;have y2:=pw_cell_below HWQ.out y2;have HO3:=Hd (HO2.out.below hwq);have fz:=HO3.out.frozen;have z1:(wq.setCell ⟨blk,j*3,none⟩ (.slice Y.A Y.row.length Y.c)).cell? ⟨blk,j*3+1,none⟩=some (.int .i64 X.at'):=(far_cell x1 zq46 (.slice Y.A Y.row.length Y.c))
      have z2:((wq.setCell ⟨blk,j*3,none⟩ (.slice Y.A Y.row.length Y.c)).setCell ⟨blk,j*3+1,none⟩ (.int .i64 Y.at')).cell? ⟨blk,j*3+2,none⟩=some (.int .i64 X.net):=(far_cell (far_cell x2 zq46 (.slice Y.A Y.row.length Y.c)) zq46 (.int .i64 Y.at'))
      have t0:(((wq.setCell ⟨blk,j*3,none⟩ (.slice Y.A Y.row.length Y.c)).setCell ⟨blk,j*3+1,none⟩ (.int .i64 Y.at')).setCell ⟨blk,j*3+2,none⟩ (.int .i64 Y.net)).cell? ⟨blk,r*3,none⟩=some (.slice Y.A Y.row.length Y.c):=(far_cell (far_cell (far_cell y0 zq46 (.slice Y.A Y.row.length Y.c)) zq46 (.int .i64 Y.at')) zq46 (.int .i64 Y.net))
      have t1:((((wq.setCell ⟨blk,j*3,none⟩ (.slice Y.A Y.row.length Y.c)).setCell ⟨blk,j*3+1,none⟩ (.int .i64 Y.at')).setCell ⟨blk,j*3+2,none⟩ (.int .i64 Y.net)).setCell ⟨blk,r*3,none⟩ (.slice X.A X.row.length X.c)).cell? ⟨blk,r*3+1,none⟩=some (.int .i64 Y.at'):=(far_cell (far_cell (far_cell (far_cell y1 zq46 (.slice Y.A Y.row.length Y.c)) zq46 (.int .i64 Y.at')) zq46 (.int .i64 Y.net)) zq46 (.slice X.A X.row.length X.c))
      have t2:(((((wq.setCell ⟨blk,j*3,none⟩ (.slice Y.A Y.row.length Y.c)).setCell ⟨blk,j*3+1,none⟩ (.int .i64 Y.at')).setCell ⟨blk,j*3+2,none⟩ (.int .i64 Y.net)).setCell ⟨blk,r*3,none⟩ (.slice X.A X.row.length X.c)).setCell ⟨blk,r*3+1,none⟩ (.int .i64 X.at')).cell? ⟨blk,r*3+2,none⟩=some (.int .i64 Y.net):=(far_cell (far_cell (far_cell (far_cell (far_cell y2 zq46 (.slice Y.A Y.row.length Y.c)) zq46 (.int .i64 Y.at')) zq46 (.int .i64 Y.net)) zq46 (.slice X.A X.row.length X.c)) zq46 (.int .i64 X.at'))
      clear hwq x0' x1' x2' y0' y1' y2';go_wp2
      go_region
      have HO4:=Hd ((HO3.out.exch3 enc_len HPN.out HRN.out (show enc _=_ by rw[HX.out];rfl) (show enc _=_ by rw[HY.out];rfl)).drew);have HS4:=Hd (HS2.out.trans ((Step.of_below HWQ.out).trans (step_drew _ (step_exch3 wq blk (j*3) (j*3+1) (j*3+2) (r*3) (r*3+1) (r*3+2) (.slice Y.A Y.row.length Y.c) (.int .i64 Y.at') (.int .i64 Y.net) (.slice X.A X.row.length X.c) (.int .i64 X.at') (.int .i64 X.net)))));have HP4:=Hd ((exch_perm g2 n j r HPN.out HRN.out).trans HP2.out);have HI4:=Hd (show Ins cf (exch g2 j r) a i r by
       have e:=HR.out;have hc2:cf (g2 j) (g2 r)<0:=by rw[HX.out,HY.out,HCV.out];exact ODT bc
       clear bc;subst e;exact ins_step o HI.out zq4 hji hc2)
      have HSM4:=Hd (show SameOn g (exch g2 j r) a b from HSM2.out.trans (SameOn.exch g2 zq4 zq4 zq46 zq46));go_wp2;go_roundw
      case rel=>exact⟨r,exch g2 j r,by have:=HR.out;omega,by have:=HR.out;omega,rfl,⟨HI4.out⟩,⟨HSM4.out⟩,⟨HO4.out⟩,⟨HS4.out⟩,⟨HP4.out⟩⟩
      case measure=>simp[intOf];have:=HR.out;omega
     ·have bc:decide (cv<0)=false:=DEF hc
      clear hx hy hX hY hcv hr hpn hrn okk;go_wp2;refine wp_region_quiet_below zq17 zq17 ?_
      repeat (go_big_quiet_step (exact below_calls (CM.out _)))
      refine wpQuiet_nil ?_;intro wq hw1;have hwq:Below wr.heap.size wr wq:=by obtain⟨p,rfl⟩:=hw1;exact p.h
      clear hw1;have HWQ:=Hd hwq;clear hwq;have HU3:=Hd (show Up cf g2 a (i+1) from ins_done o HI.out hji (.inr ⟨r,HR.out,by rw[HX.out,HY.out,HCV.out];exact of_decide_eq_false bc⟩));go_wp2;go_roundw
      case rel=>exact⟨i+1,g2,by omega,by omega,by go_num,⟨.inl HU3.out⟩,⟨HSM2.out⟩,⟨HO2.out.below HWQ.out⟩,⟨HS2.out.trans (Step.of_below HWQ.out)⟩,⟨HP2.out⟩⟩
      case measure=>simp[intOf];omega
    ·have hja:j=a:=by omega
     have bg:decide ((j:Int) > (a:Int))=false:=DEF zq4;have HU3:=Hd (show Up cf g2 a (i+1) from ins_done o HI.out hji (.inl zq4));have HJA:=Hd hja;clear hja;go_wp2;refine wp_region_quiet_below zq17 zq17 ?_
     repeat (go_big_quiet_step (fail))
     refine wpQuiet_nil ?_;intro wq hw1;have hwq:Below wr.heap.size wr wq:=by obtain⟨p,rfl⟩:=hw1;exact p.h
     clear hw1;have HWQ:=Hd hwq;clear hwq;go_wp2;go_roundw
     case rel=>exact⟨i+1,g2,by omega,by omega,by go_num,⟨.inl HU3.out⟩,⟨HSM2.out⟩,⟨HO2.out.below HWQ.out⟩,⟨HS2.out.trans (Step.of_below HWQ.out)⟩,⟨HP2.out⟩⟩
     case measure=>simp[intOf];omega
  ·have HU2:=Hd (show Up cf g' a b by
    rcases HU.out with h | h
    ·exact h.sub (Nat.le_refl _) zq4
    ·exact Up.one cf g' a b zq4)
   go_wp2
   go_end0
   exact⟨rfl,g',HO.out,HU2.out,HSM.out,HS.out,HP.out⟩
theorem symA_calls (cf:El->El->Int) (o:Ord cf) (OK:El->Prop) (blk cap n:Nat) (fn:Nat) (hn:n<=17592186044416) (hfn:∀ args w,(callFunc fn args).run Tryz.prog w = .ok (.enter fn args) w) (g:Nat->El) (a m b:Nat) (w:World) (hH:Holds enc 3 w blk 41 n g) (hok:∀ i,i<n->OK (g i)) (ham:a+1=m) (hmb:m<b) (hb:b<=n) (h2:Up cf g m b)
  (hcmp:∀ (x y:El) (w1:World),OK x->OK y->Step (OnlyB blk) (OnlyB blk) w w1->Calls Tryz.prog fn #[.agg #[.slice x.A x.row.length x.c,.int .i64 x.at',.int .i64 x.net],.agg #[.slice y.A y.row.length y.c,.int .i64 y.at',.int .i64 y.net]] w1 fun e w'=>e = .returned (.int .i64 (cf x y))/\Below w1.heap.size w1 w') :
  Calls Tryz.prog 167 #[.slice (some ⟨blk,0,none⟩) n cap,.int .i64 (a:Int),.int .i64 (m:Int),.int .i64 (b:Int),.func (.func fn) #[] #[]] w fun e w'=>e = .returned (.tuple #[]) /\ ∃ g',Holds enc 3 w' blk 41 n g'/\Up cf g' a b/\SameOn g g' a b/\Step (OnlyB blk) (OnlyB blk) w w'/\(row g' n).Perm (row g n):=by
 have HH:=Hd hH;have HOK:=Hd hok;have HC:=Hd hcmp;have H2:=Hd h2;have b0:((m:Int) - (a:Int) == 1)=true:=beq_iff_eq.2 zq4;have e0:(m:Int) - (a:Int)=1:=by omega
 clear hH hok hcmp h2;go_enter Tryz.func167,Tryz.ntmps167;go_wp2
 go_loopw [10,11] (fun v10 v11 wr=>∃ (i j:Nat),m<=i/\i<=j/\j<=b/\v10 = .int .i64 (i:Int)/\v11 = .int .i64 (j:Int)/\Aside0 (i=m\/cf (g (i - 1)) (g a)<0)/\Aside0 (j=b \/ ¬ cf (g j) (g a)<0)/\Aside0 (Below w.heap.size w wr)) (fun v10 v11 wr=>(intOf v11).toNat - (intOf v10).toNat)
 case atStart=>exact⟨m,b,by omega,by omega,by omega,rfl,rfl,⟨.inl rfl⟩,⟨.inl rfl⟩,⟨Below.refl _ _⟩⟩
 case round =>
  obtain⟨i,j,hmi,hij,hjb,rfl,rfl,HI,HJ,HB⟩:=hrel
  by_cases ci:i<j
  ·clear e0
   obtain⟨h,hh⟩:∃ h:Nat,(i+j) / 2=h:=⟨_,rfl⟩
   have eh:((i:Int)+(j:Int)) / 2=(h:Int):=by omega
   have hih:i<=h:=by omega
   have hhj:h<j:=by omega
   have HO:=Hd (HH.out.below HB.out);have hpn:h<n:=by omega
   have hrn:a<n:=by omega
   obtain⟨X,hX⟩:∃ X,g h=X:=⟨_,rfl⟩
   obtain⟨Y,hY⟩:∃ Y,g a=Y:=⟨_,rfl⟩
   have hx:=fun j' u hc_=>HO.out.cell (i:=h) (j:=j') (u:=u) hpn hc_
   have hy:=fun j' u hc_=>HO.out.cell (i:=a) (j:=j') (u:=u) hrn hc_
   rw[hX] at hx;rw[hY] at hy;have x0:=hx 0 _ rfl;rw[Nat.add_zero] at x0;have x1:=hx 1 _ rfl;have x2:=hx 2 _ rfl;have y0:=hy 0 _ rfl;rw[Nat.add_zero] at y0;have y1:=hy 1 _ rfl;have y2:=hy 2 _ rfl;have CM:=Hd (fun (p:BelowOf wr)=>HC.out X Y p.W (hX ▸ HOK.out h hpn) (hY ▸ HOK.out a hrn) (Step.of_below (HB.out.trans (p.h.mono HB.out.size))));obtain⟨cv,hcv⟩:∃ cv,cf X Y=cv:=⟨_,rfl⟩
   rw[hcv] at CM;have HCV:=Hd (show cf (g h) (g a)=cv by rw[hX,hY];exact hcv);have x0':=fun p=>BelowOf.cell x0 p
   have x1':=fun p=>BelowOf.cell x1 p
   have x2':=fun p=>BelowOf.cell x2 p
   have y0':=fun p=>BelowOf.cell y0 p
   have y1':=fun p=>BelowOf.cell y1 p
   have y2':=fun p=>BelowOf.cell y2 p
   clear hx hy hX hY hcv;have l1:(h:Int)<(n:Int):=by omega
   have l2:(a:Int)<(n:Int):=by omega
   have hu:=Tryz.underlying41
   by_cases hc:cv<0
   ·have bc:decide (cv<0)=true:=DET hc
    clear hh hpn hrn;go_wp2;refine wp_region_quiet_below zq17 zq17 ?_
    repeat (go_big_quiet_step (exact below_calls (CM.out _)))
    refine wpQuiet_nil ?_;intro wq hw1;have HWQ:=Hd (show Below wr.heap.size wr wq by obtain⟨p,rfl⟩:=hw1;exact p.h);clear hw1;go_wp2;go_roundw
    case rel=>exact⟨h+1,j,by omega,by omega,by omega,by go_num,rfl,⟨.inr (by rw[Nat.add_sub_cancel,HCV.out];have:=ODT bc;omega)⟩,⟨by have:=HJ.out;omega⟩,⟨HB.out.trans (HWQ.out.mono HB.out.size)⟩⟩
    case measure=>simp[intOf];omega
   ·have bc:decide (cv<0)=false:=DEF hc
    clear hh hpn hrn;go_wp2;refine wp_region_quiet_below zq17 zq17 ?_
    repeat (go_big_quiet_step (exact below_calls (CM.out _)))
    refine wpQuiet_nil ?_;intro wq hw1;have HWQ:=Hd (show Below wr.heap.size wr wq by obtain⟨p,rfl⟩:=hw1;exact p.h);clear hw1;go_wp2;go_roundw
    case rel=>exact⟨i,h,by omega,by omega,by omega,rfl,rfl,⟨by have:=HI.out;omega⟩,⟨.inr (by rw[HCV.out];have:=of_decide_eq_false bc;omega)⟩,⟨HB.out.trans (HWQ.out.mono HB.out.size)⟩⟩
    case measure=>simp[intOf];omega
  ·obtain rfl:i=j:=by omega
   have HO:=Hd (HH.out.below HB.out);obtain⟨t,ht⟩:∃ t,i=t+1:=⟨i - 1,by omega⟩
   have ei:(i:Int) - 1=(t:Int):=by omega
   have ei2:IntKind.i64.wrap ((i:Int) - 1)=(t:Int):=by rw[IntKind.wrap_i64];omega
   clear e0;go_wp2
   go_loopw [13] (fun v13 wr2=>∃ (q:Nat),a+q<=t/\v13 = .int .i64 ((a+q:Nat):Int)/\Aside0 (Holds enc 3 wr2 blk 41 n (shiftUp g a q))/\Aside0 (SameOn g (shiftUp g a q) a b)/\Aside0 (Step (OnlyB blk) (OnlyB blk) w wr2)/\Aside0 ((row (shiftUp g a q) n).Perm (row g n))) (fun v13 wr2=>i - (intOf v13).toNat)
   case atStart=>exact⟨0,by omega,by simp,⟨by rw[shiftUp_zero];exact HO.out⟩,⟨by rw[shiftUp_zero];exact SameOn.refl _ _ _⟩,⟨Step.of_below HB.out⟩,⟨by rw[shiftUp_zero]⟩⟩
   case round =>
    obtain⟨q,hq,rfl,HO2,HSM,HS,HP⟩:=hrel;obtain⟨p,hp⟩:∃ p,a+q=p:=⟨_,rfl⟩
    rw[hp];have HPE:=Hd hp;obtain⟨g2,hg2⟩:∃ g2,shiftUp g a q=g2:=⟨_,rfl⟩
    rw[hg2] at HO2 HSM HP;have HG2:=Hd hg2;clear hg2
    by_cases cp:p<t
    ·obtain⟨r,hr⟩:∃ r,p+1=r:=⟨_,rfl⟩
     have HRE:=Hd hr;have er:(p:Int)+1=(r:Int):=by omega
     have er2:IntKind.i64.wrap ((p:Int)+1)=(r:Int):=by rw[IntKind.wrap_i64];omega
     have hpn:p<n:=by omega
     have hrn:r<n:=by omega
     obtain⟨X,hX⟩:∃ X,g2 p=X:=⟨_,rfl⟩
     obtain⟨Y,hY⟩:∃ Y,g2 r=Y:=⟨_,rfl⟩
     have hx:=fun j' u hc_=>HO2.out.cell (i:=p) (j:=j') (u:=u) hpn hc_
     have hy:=fun j' u hc_=>HO2.out.cell (i:=r) (j:=j') (u:=u) hrn hc_
     rw[hX] at hx;rw[hY] at hy;have x0:=hx 0 _ rfl;rw[Nat.add_zero] at x0;have x1:=hx 1 _ rfl;have x2:=hx 2 _ rfl;have y0:=hy 0 _ rfl;rw[Nat.add_zero] at y0;have y1:=hy 1 _ rfl;have y2:=hy 2 _ rfl;have l1:(p:Int)<(n:Int):=by omega
     have l2:(r:Int)<(n:Int):=by omega
     have hu:=Tryz.underlying41;have fz:=HO2.out.frozen;have z1:(wr.setCell ⟨blk,p*3,none⟩ (.slice Y.A Y.row.length Y.c)).cell? ⟨blk,p*3+1,none⟩=some (.int .i64 X.at'):=(far_cell x1 zq4 (.slice Y.A Y.row.length Y.c))
     have z2:((wr.setCell ⟨blk,p*3,none⟩ (.slice Y.A Y.row.length Y.c)).setCell ⟨blk,p*3+1,none⟩ (.int .i64 Y.at')).cell? ⟨blk,p*3+2,none⟩=some (.int .i64 X.net):=(far_cell (far_cell x2 zq4 (.slice Y.A Y.row.length Y.c)) zq4 (.int .i64 Y.at'))
     have t0:(((wr.setCell ⟨blk,p*3,none⟩ (.slice Y.A Y.row.length Y.c)).setCell ⟨blk,p*3+1,none⟩ (.int .i64 Y.at')).setCell ⟨blk,p*3+2,none⟩ (.int .i64 Y.net)).cell? ⟨blk,r*3,none⟩=some (.slice Y.A Y.row.length Y.c):=(far_cell (far_cell (far_cell y0 zq4 (.slice Y.A Y.row.length Y.c)) zq4 (.int .i64 Y.at')) zq4 (.int .i64 Y.net))
     have t1:((((wr.setCell ⟨blk,p*3,none⟩ (.slice Y.A Y.row.length Y.c)).setCell ⟨blk,p*3+1,none⟩ (.int .i64 Y.at')).setCell ⟨blk,p*3+2,none⟩ (.int .i64 Y.net)).setCell ⟨blk,r*3,none⟩ (.slice X.A X.row.length X.c)).cell? ⟨blk,r*3+1,none⟩=some (.int .i64 Y.at'):=(far_cell (far_cell (far_cell (far_cell y1 zq4 (.slice Y.A Y.row.length Y.c)) zq4 (.int .i64 Y.at')) zq4 (.int .i64 Y.net)) zq4 (.slice X.A X.row.length X.c))
     have t2:(((((wr.setCell ⟨blk,p*3,none⟩ (.slice Y.A Y.row.length Y.c)).setCell ⟨blk,p*3+1,none⟩ (.int .i64 Y.at')).setCell ⟨blk,p*3+2,none⟩ (.int .i64 Y.net)).setCell ⟨blk,r*3,none⟩ (.slice X.A X.row.length X.c)).setCell ⟨blk,r*3+1,none⟩ (.int .i64 X.at')).cell? ⟨blk,r*3+2,none⟩=some (.int .i64 Y.net):=(far_cell (far_cell (far_cell (far_cell (far_cell y2 zq4 (.slice Y.A Y.row.length Y.c)) zq4 (.int .i64 Y.at')) zq4 (.int .i64 Y.net)) zq4 (.slice X.A X.row.length X.c)) zq4 (.int .i64 X.at'))
     have HX:=Hd hX;have HY:=Hd hY;have HPN:=Hd hpn;have HRN:=Hd hrn;have bl:decide ((p:Int)<(t:Int))=true:=DET zq4;clear hx hy hX hY hp hr hpn hrn;go_wp2
     go_region
     have HO4:=Hd ((HO2.out.exch3 enc_len HPN.out HRN.out (show enc _=_ by rw[HX.out];rfl) (show enc _=_ by rw[HY.out];rfl)).drew);have HS4:=Hd (HS.out.trans (step_drew _ (step_exch3 wr blk (p*3) (p*3+1) (p*3+2) (r*3) (r*3+1) (r*3+2) (.slice Y.A Y.row.length Y.c) (.int .i64 Y.at') (.int .i64 Y.net) (.slice X.A X.row.length X.c) (.int .i64 X.at') (.int .i64 X.net))));have HP4:=Hd ((exch_perm g2 n p r HPN.out HRN.out).trans HP.out);have HG4:=Hd (show exch g2 p r=shiftUp g a (q+1) by rw[<- HG2.out, <- HRE.out, <- HPE.out];exact shiftUp_step g a q);have HSM4:=Hd (show SameOn g (exch g2 p r) a b from HSM.out.trans (SameOn.exch g2 (by have:=HPE.out;omega) (by have:=HRE.out;omega) zq59 (by have:=HRE.out;omega)));rw[HG4.out] at HO4 HP4 HSM4;go_wp2;go_roundw
     case rel=>exact⟨q+1,by have:=HPE.out;omega,by rw[<- er];have:=HPE.out;go_num,⟨HO4.out⟩,⟨HSM4.out⟩,⟨HS4.out⟩,⟨HP4.out⟩⟩
     case measure=>simp[intOf];have:=HPE.out;omega
    ·have bl:decide ((p:Int)<(t:Int))=false:=DEF zq4
     have HU:=Hd (show Up cf g2 a b by
      rw[<- HG2.out];refine shiftUp_up o (by rw[ham];exact H2.out) zq4 ?_ ?_
      ·rcases HI.out with e | e
       ·exact .inl zq4
       ·exact .inr (by rw[show a+q=i - 1 by omega];omega)
      ·rcases HJ.out with e | e
       ·exact .inl zq4
       ·exact .inr (by rw[show a+q+1=i by omega];omega))
     go_wp2;refine bodyPost_ret (results_none rfl _ _ _) rfl ?_;exact⟨rfl,g2,HO2.out,HU.out,HSM.out,HS.out,HP.out⟩
theorem symB_calls (cf:El->El->Int) (o:Ord cf) (OK:El->Prop) (blk cap n:Nat) (fn:Nat) (hn:n<=17592186044416) (hfn:∀ args w,(callFunc fn args).run Tryz.prog w = .ok (.enter fn args) w) (g:Nat->El) (a m b:Nat) (w:World) (hH:Holds enc 3 w blk 41 n g) (hok:∀ i,i<n->OK (g i)) (ham:a+1<m) (hmb:m+1=b) (hb:b<=n) (h1:Up cf g a m)
  (hcmp:∀ (x y:El) (w1:World),OK x->OK y->Step (OnlyB blk) (OnlyB blk) w w1->Calls Tryz.prog fn #[.agg #[.slice x.A x.row.length x.c,.int .i64 x.at',.int .i64 x.net],.agg #[.slice y.A y.row.length y.c,.int .i64 y.at',.int .i64 y.net]] w1 fun e w'=>e = .returned (.int .i64 (cf x y))/\Below w1.heap.size w1 w') :
  Calls Tryz.prog 167 #[.slice (some ⟨blk,0,none⟩) n cap,.int .i64 (a:Int),.int .i64 (m:Int),.int .i64 (b:Int),.func (.func fn) #[] #[]] w fun e w'=>e = .returned (.tuple #[]) /\ ∃ g',Holds enc 3 w' blk 41 n g'/\Up cf g' a b/\SameOn g g' a b/\Step (OnlyB blk) (OnlyB blk) w w'/\(row g' n).Perm (row g n):=by
 have HH:=Hd hH;have HOK:=Hd hok;have HC:=Hd hcmp;have H1:=Hd h1;have b0:((m:Int) - (a:Int) == 1)=false:=beq_eq_false_iff_ne.2 zq4;have b1:((b:Int) - (m:Int) == 1)=true:=beq_iff_eq.2 zq4;have e0:(b:Int) - (m:Int)=1:=by omega
 clear hH hok hcmp h1;go_enter Tryz.func167,Tryz.ntmps167;go_wp2
 go_loopw [14,15] (fun v14 v15 wr=>∃ (i j:Nat),a<=i/\i<=j/\j<=m/\v14 = .int .i64 (i:Int)/\v15 = .int .i64 (j:Int)/\Aside0 (i=a \/ ¬ cf (g m) (g (i - 1))<0)/\Aside0 (j=m\/cf (g m) (g j)<0)/\Aside0 (Below w.heap.size w wr)) (fun v14 v15 wr=>(intOf v15).toNat - (intOf v14).toNat)
 case atStart=>exact⟨a,m,by omega,by omega,by omega,rfl,rfl,⟨.inl rfl⟩,⟨.inl rfl⟩,⟨Below.refl _ _⟩⟩
 case round =>
  obtain⟨i,j,hmi,hij,hjb,rfl,rfl,HI,HJ,HB⟩:=hrel
  by_cases ci:i<j
  ·clear e0
   obtain⟨h,hh⟩:∃ h:Nat,(i+j) / 2=h:=⟨_,rfl⟩
   have eh:((i:Int)+(j:Int)) / 2=(h:Int):=by omega
   have hih:i<=h:=by omega
   have hhj:h<j:=by omega
   have HO:=Hd (HH.out.below HB.out);have hpn:m<n:=by omega
   have hrn:h<n:=by omega
   obtain⟨X,hX⟩:∃ X,g m=X:=⟨_,rfl⟩
   obtain⟨Y,hY⟩:∃ Y,g h=Y:=⟨_,rfl⟩
   have hx:=fun j' u hc_=>HO.out.cell (i:=m) (j:=j') (u:=u) hpn hc_
   have hy:=fun j' u hc_=>HO.out.cell (i:=h) (j:=j') (u:=u) hrn hc_
   rw[hX] at hx;rw[hY] at hy;have x0:=hx 0 _ rfl;rw[Nat.add_zero] at x0;have x1:=hx 1 _ rfl;have x2:=hx 2 _ rfl;have y0:=hy 0 _ rfl;rw[Nat.add_zero] at y0;have y1:=hy 1 _ rfl;have y2:=hy 2 _ rfl;have CM:=Hd (fun (p:BelowOf wr)=>HC.out X Y p.W (hX ▸ HOK.out m hpn) (hY ▸ HOK.out h hrn) (Step.of_below (HB.out.trans (p.h.mono HB.out.size))));obtain⟨cv,hcv⟩:∃ cv,cf X Y=cv:=⟨_,rfl⟩
   rw[hcv] at CM;have HCV:=Hd (show cf (g m) (g h)=cv by rw[hX,hY];exact hcv);have x0':=fun p=>BelowOf.cell x0 p
   have x1':=fun p=>BelowOf.cell x1 p
   have x2':=fun p=>BelowOf.cell x2 p
   have y0':=fun p=>BelowOf.cell y0 p
   have y1':=fun p=>BelowOf.cell y1 p
   have y2':=fun p=>BelowOf.cell y2 p
   clear hx hy hX hY hcv;have l1:(h:Int)<(n:Int):=by omega
   have l2:(m:Int)<(n:Int):=by omega
   have hu:=Tryz.underlying41
   by_cases hc:cv<0
   ·have bc:decide (cv<0)=true:=DET hc
    clear hh hpn hrn;go_wp2;refine wp_region_quiet_below zq17 zq17 ?_
    repeat (go_big_quiet_step (exact below_calls (CM.out _)))
    refine wpQuiet_nil ?_;intro wq hw1;have HWQ:=Hd (show Below wr.heap.size wr wq by obtain⟨p,rfl⟩:=hw1;exact p.h);clear hw1;go_wp2;go_roundw
    case rel=>exact⟨i,h,by omega,by omega,by omega,rfl,rfl,⟨by have:=HI.out;omega⟩,⟨.inr (by rw[HCV.out];have:=ODT bc;omega)⟩,⟨HB.out.trans (HWQ.out.mono HB.out.size)⟩⟩
    case measure=>simp[intOf];omega
   ·have bc:decide (cv<0)=false:=DEF hc
    clear hh hpn hrn;go_wp2;refine wp_region_quiet_below zq17 zq17 ?_
    repeat (go_big_quiet_step (exact below_calls (CM.out _)))
    refine wpQuiet_nil ?_;intro wq hw1;have HWQ:=Hd (show Below wr.heap.size wr wq by obtain⟨p,rfl⟩:=hw1;exact p.h);clear hw1;go_wp2;go_roundw
    case rel=>exact⟨h+1,j,by omega,by omega,by omega,by go_num,rfl,⟨.inr (by rw[Nat.add_sub_cancel,HCV.out];have:=of_decide_eq_false bc;omega)⟩,⟨by have:=HJ.out;omega⟩,⟨HB.out.trans (HWQ.out.mono HB.out.size)⟩⟩
    case measure=>simp[intOf];omega
  ·obtain rfl:i=j:=by omega
   have HO:=Hd (HH.out.below HB.out);clear e0;go_wp2
   go_loopw [17] (fun v17 wr2=>∃ (q:Nat),q<=m - i/\v17 = .int .i64 ((m - q:Nat):Int)/\Aside0 (Holds enc 3 wr2 blk 41 n (shiftDown g m q))/\Aside0 (SameOn g (shiftDown g m q) a b)/\Aside0 (Step (OnlyB blk) (OnlyB blk) w wr2)/\Aside0 ((row (shiftDown g m q) n).Perm (row g n))) (fun v17 wr2=>(intOf v17).toNat)
   case atStart=>exact⟨0,by omega,by simp,⟨by rw[shiftDown_zero];exact HO.out⟩,⟨by rw[shiftDown_zero];exact SameOn.refl _ _ _⟩,⟨Step.of_below HB.out⟩,⟨by rw[shiftDown_zero]⟩⟩
   case round =>
    obtain⟨q,hq,rfl,HO2,HSM,HS,HP⟩:=hrel;obtain⟨p,hp⟩:∃ p,m - q=p:=⟨_,rfl⟩
    rw[hp];have HPE:=Hd hp;obtain⟨g2,hg2⟩:∃ g2,shiftDown g m q=g2:=⟨_,rfl⟩
    rw[hg2] at HO2 HSM HP;have HG2:=Hd hg2;clear hg2
    by_cases cp:i<p
    ·obtain⟨r,hr⟩:∃ r,p=r+1:=⟨p - 1,by omega⟩
     have HRE:=Hd hr;have er:(p:Int) - 1=(r:Int):=by omega
     have er2:IntKind.i64.wrap ((p:Int) - 1)=(r:Int):=by rw[IntKind.wrap_i64];omega
     have hpn:p<n:=by omega
     have hrn:r<n:=by omega
     obtain⟨X,hX⟩:∃ X,g2 p=X:=⟨_,rfl⟩
     obtain⟨Y,hY⟩:∃ Y,g2 r=Y:=⟨_,rfl⟩
     have hx:=fun j' u hc_=>HO2.out.cell (i:=p) (j:=j') (u:=u) hpn hc_
     have hy:=fun j' u hc_=>HO2.out.cell (i:=r) (j:=j') (u:=u) hrn hc_
     rw[hX] at hx;rw[hY] at hy;have x0:=hx 0 _ rfl;rw[Nat.add_zero] at x0;have x1:=hx 1 _ rfl;have x2:=hx 2 _ rfl;have y0:=hy 0 _ rfl;rw[Nat.add_zero] at y0;have y1:=hy 1 _ rfl;have y2:=hy 2 _ rfl;have l1:(p:Int)<(n:Int):=by omega
     have l2:(r:Int)<(n:Int):=by omega
     have hu:=Tryz.underlying41;have fz:=HO2.out.frozen;have z1:(wr.setCell ⟨blk,p*3,none⟩ (.slice Y.A Y.row.length Y.c)).cell? ⟨blk,p*3+1,none⟩=some (.int .i64 X.at'):=(far_cell x1 zq4 (.slice Y.A Y.row.length Y.c))
     have z2:((wr.setCell ⟨blk,p*3,none⟩ (.slice Y.A Y.row.length Y.c)).setCell ⟨blk,p*3+1,none⟩ (.int .i64 Y.at')).cell? ⟨blk,p*3+2,none⟩=some (.int .i64 X.net):=(far_cell (far_cell x2 zq4 (.slice Y.A Y.row.length Y.c)) zq4 (.int .i64 Y.at'))
     have t0:(((wr.setCell ⟨blk,p*3,none⟩ (.slice Y.A Y.row.length Y.c)).setCell ⟨blk,p*3+1,none⟩ (.int .i64 Y.at')).setCell ⟨blk,p*3+2,none⟩ (.int .i64 Y.net)).cell? ⟨blk,r*3,none⟩=some (.slice Y.A Y.row.length Y.c):=(far_cell (far_cell (far_cell y0 zq4 (.slice Y.A Y.row.length Y.c)) zq4 (.int .i64 Y.at')) zq4 (.int .i64 Y.net))
     have t1:((((wr.setCell ⟨blk,p*3,none⟩ (.slice Y.A Y.row.length Y.c)).setCell ⟨blk,p*3+1,none⟩ (.int .i64 Y.at')).setCell ⟨blk,p*3+2,none⟩ (.int .i64 Y.net)).setCell ⟨blk,r*3,none⟩ (.slice X.A X.row.length X.c)).cell? ⟨blk,r*3+1,none⟩=some (.int .i64 Y.at'):=(far_cell (far_cell (far_cell (far_cell y1 zq4 (.slice Y.A Y.row.length Y.c)) zq4 (.int .i64 Y.at')) zq4 (.int .i64 Y.net)) zq4 (.slice X.A X.row.length X.c))
     have t2:(((((wr.setCell ⟨blk,p*3,none⟩ (.slice Y.A Y.row.length Y.c)).setCell ⟨blk,p*3+1,none⟩ (.int .i64 Y.at')).setCell ⟨blk,p*3+2,none⟩ (.int .i64 Y.net)).setCell ⟨blk,r*3,none⟩ (.slice X.A X.row.length X.c)).setCell ⟨blk,r*3+1,none⟩ (.int .i64 X.at')).cell? ⟨blk,r*3+2,none⟩=some (.int .i64 Y.net):=(far_cell (far_cell (far_cell (far_cell (far_cell y2 zq4 (.slice Y.A Y.row.length Y.c)) zq4 (.int .i64 Y.at')) zq4 (.int .i64 Y.net)) zq4 (.slice X.A X.row.length X.c)) zq4 (.int .i64 X.at'))
     have HX:=Hd hX;have HY:=Hd hY;have HPN:=Hd hpn;have HRN:=Hd hrn;have bl:decide ((p:Int) > (i:Int))=true:=DET zq4;clear hx hy hX hY hp hr hpn hrn;go_wp2
     go_region
     have HO4:=Hd ((HO2.out.exch3 enc_len HPN.out HRN.out (show enc _=_ by rw[HX.out];rfl) (show enc _=_ by rw[HY.out];rfl)).drew);have HS4:=Hd (HS.out.trans (step_drew _ (step_exch3 wr blk (p*3) (p*3+1) (p*3+2) (r*3) (r*3+1) (r*3+2) (.slice Y.A Y.row.length Y.c) (.int .i64 Y.at') (.int .i64 Y.net) (.slice X.A X.row.length X.c) (.int .i64 X.at') (.int .i64 X.net))));have HP4:=Hd ((exch_perm g2 n p r HPN.out HRN.out).trans HP.out);have HG4:=Hd (show exch g2 p r=shiftDown g m (q+1) by
      have h9:=shiftDown_step g m q zq59;rw[HG2.out,HPE.out,show p - 1=r by have:=HRE.out;omega] at h9;exact h9)
     have HSM4:=Hd (show SameOn g (exch g2 p r) a b from HSM.out.trans (SameOn.exch g2 zq59 (by have:=HPE.out;omega) zq59 zq59));rw[HG4.out] at HO4 HP4 HSM4;go_wp2;go_roundw
     case rel=>exact⟨q+1,by have:=HPE.out;have:=HRE.out;omega,by rw[show m - (q+1)=r by have:=HPE.out;have:=HRE.out;omega],⟨HO4.out⟩,⟨HSM4.out⟩,⟨HS4.out⟩,⟨HP4.out⟩⟩
     case measure=>simp[intOf];have:=HRE.out;omega
    ·have bl:decide ((p:Int) > (i:Int))=false:=DEF zq4
     have HU:=Hd (show Up cf g2 a b by
      rw[<- HG2.out, <- hmb];refine shiftDown_up o H1.out zq4 ?_ ?_
      ·rcases HI.out with e | e
       ·exact .inl zq4
       ·exact .inr (by rw[show m - q - 1=i - 1 by omega];omega)
      ·rcases HJ.out with e | e
       ·exact .inl zq4
       ·exact .inr (by rw[show m - q=i by omega];omega))
     go_wp2;refine bodyPost_ret (results_none rfl _ _ _) rfl ?_;exact⟨rfl,g2,HO2.out,HU.out,HSM.out,HS.out,HP.out⟩
theorem stopC {P:Program} {n rid:Nat} {ops:Array Oper} {bb:Bool} {A B:Code} {Q:Exit->Act->World->Prop} {a:Act} {w:World} (h:∀ J:Act->World->Prop,(∀ a w,(Code.seq (Code.region rid ops bb) (Code.cond (.tmp n) A B)).wp P Q a w->J a w)->Met J a w):(Code.seq (Code.region rid ops bb) (Code.cond (.tmp n) A B)).wp P Q a w:=h _ fun _ _ h=>h
theorem same_ok {OK:El->Prop} {g g':Nat->El} {a b n:Nat} (h:∀ i,i<n->OK (g i)) (hs:SameOn g g' a b) (hb:b<=n) {q:Nat} (hq:q<n):OK (g' q):=by
 by_cases c:a<=q/\q<b
 ·obtain⟨z,z1,z2,e⟩:=hs.2 q c.1 c.2
  rw[e];exact h z zq4
 ·rw[hs.1 q zq4];exact h q hq
theorem symC_calls (cf:El->El->Int) (o:Ord cf) (OK:El->Prop) (blk cap n:Nat) (fn:Nat) (hn:n<=17592186044416) (hfn:∀ args w,(callFunc fn args).run Tryz.prog w = .ok (.enter fn args) w) (g:Nat->El) (a m b:Nat) (w:World) (hH:Holds enc 3 w blk 41 n g) (hok:∀ i,i<n->OK (g i)) (ham:a+1<m) (hmb:m+1<b) (hb:b<=n) (h1:Up cf g a m) (h2:Up cf g m b)
  (IH:∀ (g:Nat->El) (a' m' b':Nat) (w:World),b' - a'<b - a->a'<m'->m'<b'->b'<=n->Holds enc 3 w blk 41 n g->(∀ i,i<n->OK (g i))->Up cf g a' m'->Up cf g m' b'->(∀ (x y:El) (w1:World),OK x->OK y->Step (OnlyB blk) (OnlyB blk) w w1->Calls Tryz.prog fn #[.agg #[.slice x.A x.row.length x.c,.int .i64 x.at',.int .i64 x.net],.agg #[.slice y.A y.row.length y.c,.int .i64 y.at',.int .i64 y.net]] w1 fun e w'=>e = .returned (.int .i64 (cf x y))/\Below w1.heap.size w1 w') ->
   Calls Tryz.prog 167 #[.slice (some ⟨blk,0,none⟩) n cap,.int .i64 (a':Int),.int .i64 (m':Int),.int .i64 (b':Int),.func (.func fn) #[] #[]] w fun e w'=>e = .returned (.tuple #[]) /\ ∃ g',Holds enc 3 w' blk 41 n g'/\Up cf g' a' b'/\SameOn g g' a' b'/\Step (OnlyB blk) (OnlyB blk) w w'/\(row g' n).Perm (row g n))
  (hcmp:∀ (x y:El) (w1:World),OK x->OK y->Step (OnlyB blk) (OnlyB blk) w w1->Calls Tryz.prog fn #[.agg #[.slice x.A x.row.length x.c,.int .i64 x.at',.int .i64 x.net],.agg #[.slice y.A y.row.length y.c,.int .i64 y.at',.int .i64 y.net]] w1 fun e w'=>e = .returned (.int .i64 (cf x y))/\Below w1.heap.size w1 w') :
  Calls Tryz.prog 167 #[.slice (some ⟨blk,0,none⟩) n cap,.int .i64 (a:Int),.int .i64 (m:Int),.int .i64 (b:Int),.func (.func fn) #[] #[]] w fun e w'=>e = .returned (.tuple #[]) /\ ∃ g',Holds enc 3 w' blk 41 n g'/\Up cf g' a b/\SameOn g g' a b/\Step (OnlyB blk) (OnlyB blk) w w'/\(row g' n).Perm (row g n):=by
 have HH:=Hd hH;have HOK:=Hd hok;have HC:=Hd hcmp;have H1:=Hd h1;have H2:=Hd h2;have b0:((m:Int) - (a:Int) == 1)=false:=beq_eq_false_iff_ne.2 zq4;have b1:((b:Int) - (m:Int) == 1)=false:=beq_eq_false_iff_ne.2 zq4;obtain⟨M,hM⟩:∃ M:Nat,(a+b) / 2=M:=⟨_,rfl⟩
 obtain⟨nn,hnn⟩:∃ nn:Nat,M+m=nn:=⟨_,rfl⟩
 have HM:=Hd hM;have HNN:=Hd hnn;have BN:=Hd hb;have em:((a:Int)+(b:Int)) / 2=(M:Int):=by omega
 have en1:(M:Int)+(m:Int)=(nn:Int):=by omega
 have en2:(nn:Int) - 1=((nn - 1:Nat):Int):=by omega
 have hM1:2*M<=a+b:=by omega
 have hM2:a+b<=2*M+1:=by omega
 obtain⟨s0,r0,K⟩:∃ s0 r0:Nat,(M<m/\s0+b=nn/\r0=M)\/(m<=M/\s0=a/\r0=m):=by
  by_cases c:M<m
  ·exact⟨nn - b,M,.inl ⟨c,by omega,rfl⟩⟩
  ·exact⟨a,m,.inr ⟨by omega,rfl,rfl⟩⟩
 have hK:a<=s0/\s0<=r0/\r0<=m/\r0<=M/\nn<=s0+b/\(s0=a\/s0+b=nn)/\(r0=m\/r0=M):=by omega
 clear hH hok hcmp h1 h2 hM;go_enter Tryz.func167,Tryz.ntmps167
 go_upto_if 140 with fail
 go_cut [20,21] (fun v20 v21 wx=>v20 = .int .i64 (s0:Int)/\v21 = .int .i64 (r0:Int)/\w=wx)
 case first =>
  rcases K with ⟨c,c1,rfl⟩ | ⟨c,rfl,rfl⟩
  ·have bm:decide ((m:Int) > (r0:Int))=true:=DET zq4
   have es0:(nn:Int) - (b:Int)=(s0:Int):=by omega
   go_wp2_with fail
   go_meet
   exact⟨rfl,rfl,rfl⟩
  ·have bm:decide ((r0:Int) > (M:Int))=false:=DEF zq4
   go_wp2_with fail
   go_meet
   exact⟨rfl,rfl,rfl⟩
 case rest =>
 obtain⟨rfl,rfl,rfl⟩:=hcut;clear K em b0 b1;go_wp2
 go_loopw [20,21] (fun v20 v21 wr=>∃ (s r:Nat),s0<=s/\s<=r/\r<=r0/\v20 = .int .i64 (s:Int)/\v21 = .int .i64 (r:Int)/\Aside0 (s=s0 \/ ¬ cf (g (nn - s)) (g (s - 1))<0)/\Aside0 (r=r0\/cf (g (nn - r - 1)) (g r)<0)/\Aside0 (Below w.heap.size w wr)) (fun v20 v21 wr=>(intOf v21).toNat - (intOf v20).toNat)
 case atStart=>exact⟨s0,r0,by omega,by omega,by omega,rfl,rfl,⟨.inl rfl⟩,⟨.inl rfl⟩,⟨Below.refl _ _⟩⟩
 case round =>
  obtain⟨s,r,hs1,hsr,hr1,rfl,rfl,HI,HJ,HB⟩:=hrel
  by_cases ci:s<r
  ·obtain⟨h,hh⟩:∃ h:Nat,(s+r) / 2=h:=⟨_,rfl⟩
   have eh:((s:Int)+(r:Int)) / 2=(h:Int):=by omega
   have hih:s<=h:=by omega
   have hhj:h<r:=by omega
   obtain⟨z,hz⟩:∃ z:Nat,nn - 1 - h=z:=⟨_,rfl⟩
   have ez:((nn - 1:Nat):Int) - (h:Int)=(z:Int):=by omega
   have ez2:IntKind.i64.wrap (((nn - 1:Nat):Int) - (h:Int))=(z:Int):=by rw[IntKind.wrap_i64];omega
   have HZ:=Hd hz;have HO:=Hd (HH.out.below HB.out);have hzn:z<n:=by omega
   have hpn:z<n:=by omega
   have hrn:h<n:=by omega
   obtain⟨X,hX⟩:∃ X,g z=X:=⟨_,rfl⟩
   obtain⟨Y,hY⟩:∃ Y,g h=Y:=⟨_,rfl⟩
   have hx:=fun j' u hc_=>HO.out.cell (i:=z) (j:=j') (u:=u) hpn hc_
   have hy:=fun j' u hc_=>HO.out.cell (i:=h) (j:=j') (u:=u) hrn hc_
   rw[hX] at hx;rw[hY] at hy;have x0:=hx 0 _ rfl;rw[Nat.add_zero] at x0;have x1:=hx 1 _ rfl;have x2:=hx 2 _ rfl;have y0:=hy 0 _ rfl;rw[Nat.add_zero] at y0;have y1:=hy 1 _ rfl;have y2:=hy 2 _ rfl;have CM:=Hd (fun (p:BelowOf wr)=>HC.out X Y p.W (hX ▸ HOK.out z hpn) (hY ▸ HOK.out h hrn) (Step.of_below (HB.out.trans (p.h.mono HB.out.size))));obtain⟨cv,hcv⟩:∃ cv,cf X Y=cv:=⟨_,rfl⟩
   rw[hcv] at CM;have HCV:=Hd (show cf (g z) (g h)=cv by rw[hX,hY];exact hcv);have x0':=fun p=>BelowOf.cell x0 p
   have x1':=fun p=>BelowOf.cell x1 p
   have x2':=fun p=>BelowOf.cell x2 p
   have y0':=fun p=>BelowOf.cell y0 p
   have y1':=fun p=>BelowOf.cell y1 p
   have y2':=fun p=>BelowOf.cell y2 p
   clear hx hy hX hY hcv;have l1:(h:Int)<(n:Int):=by omega
   have l2:(z:Int)<(n:Int):=by omega
   have hu:=Tryz.underlying41
   by_cases hc:cv<0
   ·have bc:decide (cv<0)=true:=DET hc
    clear hh hz hpn hrn;go_wp2;refine wp_region_quiet_below zq17 zq17 ?_
    repeat (go_big_quiet_step (exact below_calls (CM.out _)))
    refine wpQuiet_nil ?_;intro wq hw1;have HWQ:=Hd (show Below wr.heap.size wr wq by obtain⟨p,rfl⟩:=hw1;exact p.h);clear hw1;go_wp2;go_roundw
    case rel=>first | exact⟨s,h,by omega,by omega,by omega,rfl,rfl,⟨by have:=HI.out;omega⟩,⟨.inr zq38⟩,⟨HB.out.trans (HWQ.out.mono HB.out.size)⟩⟩ | exact⟨s,by omega,h,by omega,by omega,rfl,rfl,⟨by have:=HI.out;omega⟩,⟨.inr zq38⟩,⟨HB.out.trans (HWQ.out.mono HB.out.size)⟩⟩
    case measure=>simp[intOf];omega
   ·have bc:decide (cv<0)=false:=DEF hc
    clear hh hz hpn hrn;go_wp2;refine wp_region_quiet_below zq17 zq17 ?_
    repeat (go_big_quiet_step (exact below_calls (CM.out _)))
    refine wpQuiet_nil ?_;intro wq hw1;have HWQ:=Hd (show Below wr.heap.size wr wq by obtain⟨p,rfl⟩:=hw1;exact p.h);clear hw1;go_wp2;go_roundw
    case rel=>first | exact⟨h+1,r,by omega,by omega,by omega,by go_num,rfl,⟨.inr zq29⟩,⟨by have:=HJ.out;omega⟩,⟨HB.out.trans (HWQ.out.mono HB.out.size)⟩⟩ | exact⟨h+1,by omega,r,by omega,by omega,by go_num,rfl,⟨.inr zq29⟩,⟨by have:=HJ.out;omega⟩,⟨HB.out.trans (HWQ.out.mono HB.out.size)⟩⟩
    case measure=>simp[intOf];omega
  ·obtain rfl:s=r:=by omega
   have HO:=Hd (HH.out.below HB.out);obtain⟨en,hen⟩:∃ en:Nat,nn - s=en:=⟨_,rfl⟩
   have ee:(nn:Int) - (s:Int)=(en:Int):=by omega
   have HNE:=Hd (show M+m - s=en by omega);have CUT:=Hd (show Cut cf g a m b s from by
    have hM:=HM.out;refine⟨by omega,by omega,by omega,by omega,?_,?_⟩
    ·rw[hM,hnn]
     rcases HI.out with e | e
     ·rcases hK.2.2.2.2.2.1 with e2 | e2
      ·exact .inl zq4
      ·exact .inr (.inl zq4)
     ·exact .inr (.inr zq4)
    ·rw[hM,hnn]
     rcases HJ.out with e | e
     ·rcases hK.2.2.2.2.2.2 with e2 | e2
      ·exact .inl zq4
      ·exact .inr (.inl zq4)
     ·exact .inr (.inr e))
   have BND:=Hd (show a<=s/\s<=m/\s<=M/\m<=en/\en<=b/\a<=M/\M<=b/\M<=en by omega);clear HI HJ hnn hs1 hr1 hsr ci
   go_upto_if 185 with (refine stopC (n:=185) ?_;intro J hJ)
   refine Met.intro (hJ _ _ ?_)
   go_cut [] (fun wx=>∃ g1,Aside0 (Holds enc 3 wx blk 41 n g1)/\Aside0 (Turned g g1 s m en)/\Aside0 (Step (OnlyB blk) (OnlyB blk) w wx)/\Aside0 ((row g1 n).Perm (row g n)))
   case first =>
    by_cases c:s<m/\m<en
    ·have bA:decide ((s:Int)<(m:Int))=true:=DET zq4;have bB:decide ((m:Int)<(en:Int))=true:=DET zq4
     go_wp2_with (first | (go_at_call 187;(with_reducible refine (rotate_calls blk cap n g fn #[] s m en _ HO.out ?ra ?rb ?rc hn).mono ?_);(case ra=>have:=BND.out;omega);(case rb=>have:=BND.out;omega);(case rc=>have:=BND.out;omega);rintro e w1 ⟨rfl,g1,k1,k2,k3,k4⟩;have O1:=Hd k1;have T1:=Hd k2;have S1:=Hd ((Step.of_below (S:=OnlyB blk) HB.out).trans k3);have P1:=Hd k4;clear k1 k2 k3 k4))
     go_meet
     exact⟨g1,⟨O1.out⟩,⟨T1.out⟩,⟨S1.out⟩,⟨P1.out⟩⟩
    ·have T1:=Hd (show Turned g g s m en from turned_none (by have:=BND.out;omega) BND.out.2.1 BND.out.2.2.2.1)
     go_wp2_with fail
     all_goals (go_meet;exact⟨g,⟨HO.out⟩,⟨T1.out⟩,⟨Step.of_below HB.out⟩,⟨List.Perm.refl _⟩⟩)
   case rest =>
   obtain⟨g1,O1,T1,S1,P1⟩:=hcut;have CH:=Hd (cut_halves o H1.out H2.out CUT.out zq14);rw[HM.out,HNE.out] at CH;have SG1:=Hd ((turned_same T1.out BND.out.2.1 BND.out.2.2.2.1).wide BND.out.1 BND.out.2.2.2.2.1);have OK1:=Hd (fun q (hq:q<n)=>same_ok HOK.out SG1.out BN.out hq)
   go_upto_if 199 with (refine stopC (n:=199) ?_;intro J hJ)
   refine Met.intro (hJ _ _ ?_)
   go_cut [] (fun wx=>∃ g2,Aside0 (Holds enc 3 wx blk 41 n g2)/\Aside0 (Up cf g2 a M)/\Aside0 (SameOn g1 g2 a M)/\Aside0 (Step (OnlyB blk) (OnlyB blk) w wx)/\Aside0 ((row g2 n).Perm (row g n)))
   case first =>
    by_cases c:a<s/\s<M
    ·have bA:decide ((a:Int)<(s:Int))=true:=DET zq4;have bB:decide ((s:Int)<(M:Int))=true:=DET zq4
     go_wp2_with (first | (go_at_call 167;(with_reducible refine (IH g1 a s M _ ?la ?lb ?lc ?ld O1.out OK1.out CH.out.1 CH.out.2.1 (fun x y w9 hx hy hs=>HC.out x y w9 hx hy (S1.out.trans hs))).mono ?_);(case la=>have:=BND.out;omega);(case lb=>have:=BND.out;omega);(case lc=>have:=BND.out;omega);(case ld=>have:=BND.out;omega);rintro e w2 ⟨rfl,g2,k1,k2,k3,k4,k5⟩;have O2:=Hd k1;have U2:=Hd k2;have G2:=Hd k3;have S2:=Hd (S1.out.trans k4);have P2:=Hd (k5.trans P1.out);clear k1 k2 k3 k4 k5))
     go_meet
     exact⟨g2,⟨O2.out⟩,⟨U2.out⟩,⟨G2.out⟩,⟨S2.out⟩,⟨P2.out⟩⟩
    ·have U2:=Hd (up_empty CH.out.1 CH.out.2.1 c BND.out.1 BND.out.2.2.1)
     go_wp2_with fail
     all_goals (go_meet;exact⟨g1,⟨O1.out⟩,⟨U2.out⟩,⟨SameOn.refl _ _ _⟩,⟨S1.out⟩,⟨P1.out⟩⟩)
   case rest =>
   obtain⟨g2,O2,U2,G2,S2,P2⟩:=hcut;have E1:=Hd (CH.out.2.2.1.congr fun k k1 _=>G2.out.1 k (.inr k1));have E2:=Hd (CH.out.2.2.2.1.congr fun k k1 _=>G2.out.1 k (.inr (Nat.le_trans BND.out.2.2.2.2.2.2.2 k1)));have OK2:=Hd (fun q (hq:q<n)=>same_ok OK1.out (G2.out.wide (Nat.le_refl _) BND.out.2.2.2.2.2.2.1) BN.out hq)
   by_cases c:M<en/\en<b
   ·have bA:decide ((M:Int)<(en:Int))=true:=DET zq4;have bB:decide ((en:Int)<(b:Int))=true:=DET zq4
    go_wp2_with (first | (go_at_call 167;(with_reducible refine (IH g2 M en b _ ?ga ?gb ?gc ?gd O2.out OK2.out E1.out E2.out (fun x y w9 hx hy hs=>HC.out x y w9 hx hy (S2.out.trans hs))).mono ?_);(case ga=>have:=BND.out;omega);(case gb=>have:=BND.out;omega);(case gc=>have:=BND.out;omega);(case gd=>have:=BND.out;omega);rintro e w3 ⟨rfl,g3,k1,k2,k3,k4,k5⟩;have O3:=Hd k1;have U3:=Hd k2;have G3:=Hd k3;have S3:=Hd (S2.out.trans k4);have P3:=Hd (k5.trans P2.out);clear k1 k2 k3 k4 k5))
    go_end0
    exact⟨rfl,g3,O3.out,halves_up BND.out.2.2.2.2.2.1 BND.out.2.2.2.2.2.2.1 G2.out G3.out U2.out U3.out CH.out.2.2.2.2,(SG1.out.trans (G2.out.wide (Nat.le_refl _) BND.out.2.2.2.2.2.2.1)).trans (G3.out.wide BND.out.2.2.2.2.2.1 (Nat.le_refl _)),S3.out,P3.out⟩
   ·have U3:=Hd (up_empty E1.out E2.out c BND.out.2.2.2.2.2.2.2 BND.out.2.2.2.2.1)
    go_wp2_with fail
    all_goals (go_end0;exact⟨rfl,g2,O2.out,halves_up BND.out.2.2.2.2.2.1 BND.out.2.2.2.2.2.2.1 G2.out (SameOn.refl g2 M b) U2.out U3.out CH.out.2.2.2.2,SG1.out.trans (G2.out.wide (Nat.le_refl _) BND.out.2.2.2.2.2.2.1),S2.out,P2.out⟩)
theorem sym_calls (cf:El->El->Int) (o:Ord cf) (OK:El->Prop) (blk cap n:Nat) (fn:Nat) (hn:n<=17592186044416) (hfn:∀ args w,(callFunc fn args).run Tryz.prog w = .ok (.enter fn args) w):∀ (Q:Nat) (g:Nat->El) (a m b:Nat) (w:World),b - a<=Q->a<m->m<b->b<=n->Holds enc 3 w blk 41 n g->(∀ i,i<n->OK (g i))->Up cf g a m->Up cf g m b->(∀ (x y:El) (w1:World),OK x->OK y->Step (OnlyB blk) (OnlyB blk) w w1->Calls Tryz.prog fn #[.agg #[.slice x.A x.row.length x.c,.int .i64 x.at',.int .i64 x.net],.agg #[.slice y.A y.row.length y.c,.int .i64 y.at',.int .i64 y.net]] w1 fun e w'=>e = .returned (.int .i64 (cf x y))/\Below w1.heap.size w1 w') ->
  Calls Tryz.prog 167 #[.slice (some ⟨blk,0,none⟩) n cap,.int .i64 (a:Int),.int .i64 (m:Int),.int .i64 (b:Int),.func (.func fn) #[] #[]] w fun e w'=>e = .returned (.tuple #[]) /\ ∃ g',Holds enc 3 w' blk 41 n g'/\Up cf g' a b/\SameOn g g' a b/\Step (OnlyB blk) (OnlyB blk) w w'/\(row g' n).Perm (row g n)
 | 0,g,a,m,b,w,h,h1,h2,_,_,_,_,_,_=>by omega
 | Q+1,g,a,m,b,w,h,h1,h2,hb,hH,hok,u1,u2,hcmp=>by
  by_cases c1:a+1=m
  ·exact symA_calls cf o OK blk cap n fn hn hfn g a m b w hH hok c1 h2 hb u2 hcmp
  ·by_cases c2:m+1=b
   ·exact symB_calls cf o OK blk cap n fn hn hfn g a m b w hH hok zq4 c2 hb u1 hcmp
   ·exact symC_calls cf o OK blk cap n fn hn hfn g a m b w hH hok zq4 zq4 hb u1 u2 (fun g' a' m' b' w' k1 k2 k3 k4 k5 k6 k7 k8 k9=>sym_calls cf o OK blk cap n fn hn hfn Q g' a' m' b' w' zq4 k2 k3 k4 k5 k6 k7 k8 k9) hcmp
theorem dvd_gap {d a c:Nat} (h1:d ∣ a) (h2:d ∣ c) (h:c<a):c+d<=a:=by
 obtain⟨x,rfl⟩:=h1;obtain⟨y,rfl⟩:=h2;have:y<x:=Nat.lt_of_mul_lt_mul_left h;have:=Nat.mul_le_mul_left d this;rw[Nat.mul_succ] at this;exact this
def Bl (cf:El->El->Int) (g:Nat->El) (s n:Nat):Prop := ∀ a,s ∣ a->Up cf g a (min (a+s) n)
theorem stable_calls (cf:El->El->Int) (o:Ord cf) (OK:El->Prop) (blk cap n:Nat) (fn:Nat) (hn:n<=17592186044416) (hfn:∀ args w,(callFunc fn args).run Tryz.prog w = .ok (.enter fn args) w) (g:Nat->El) (w:World) (hH:Holds enc 3 w blk 41 n g) (hok:∀ i,i<n->OK (g i))
  (hcmp:∀ (x y:El) (w1:World),OK x->OK y->Step (OnlyB blk) (OnlyB blk) w w1->Calls Tryz.prog fn #[.agg #[.slice x.A x.row.length x.c,.int .i64 x.at',.int .i64 x.net],.agg #[.slice y.A y.row.length y.c,.int .i64 y.at',.int .i64 y.net]] w1 fun e w'=>e = .returned (.int .i64 (cf x y))/\Below w1.heap.size w1 w') :
  Calls Tryz.prog 147 #[.slice (some ⟨blk,0,none⟩) n cap,.int .i64 (n:Int),.func (.func fn) #[] #[]] w fun e w'=>e = .returned (.tuple #[]) /\ ∃ g',Holds enc 3 w' blk 41 n g'/\Up cf g' 0 n/\SameOn g g' 0 n/\Step (OnlyB blk) (OnlyB blk) w w'/\(row g' n).Perm (row g n):=by
 have HH:=Hd hH;have HOK:=Hd hok;have HC:=Hd hcmp;clear hH hok hcmp;go_enter Tryz.func147,Tryz.ntmps147;go_wp2
 go_loopw [7,8] (fun v7 v8 wr=>∃ (a:Nat) (g':Nat->El),a<=n/\20 ∣ a/\v7 = .int .i64 (a:Int)/\v8 = .int .i64 ((a+20:Nat):Int)/\Aside0 (∀ c,20 ∣ c->c<a->Up cf g' c (c+20))/\Aside0 (SameOn g g' 0 n)/\Aside0 (Holds enc 3 wr blk 41 n g')/\Aside0 (Step (OnlyB blk) (OnlyB blk) w wr)/\Aside0 ((row g' n).Perm (row g n))) (fun v7 v8 wr=>n - (intOf v7).toNat)
 case atStart=>exact⟨0,g,by omega,by omega,rfl,by simp,⟨fun c _ h=>absurd h (Nat.not_lt_zero c)⟩,⟨SameOn.refl _ _ _⟩,⟨HH.out⟩,⟨Step.refl _ _⟩,⟨List.Perm.refl _⟩⟩
 case round =>
  obtain⟨a,g',ha,h20,rfl,rfl,HU,HSM,HO,HS,HP⟩:=hrel;have OK1:=Hd (fun q (hq:q<n)=>same_ok HOK.out HSM.out (Nat.le_refl n) hq);obtain⟨b,hb⟩:∃ b,a+20=b:=⟨_,rfl⟩
  rw[hb]
  by_cases c1:b<=n
  ·have bl:decide ((b:Int)<=(n:Int))=true:=DET zq4
   go_wp2_with (go_at_call 166;(with_reducible refine (insertion_calls cf o OK blk cap n g' fn a b _ HO.out OK1.out ?ia ?ib hn hfn (fun x y w9 hx hy hs=>HC.out x y w9 hx hy (HS.out.trans hs))).mono ?_);(case ia=>omega);(case ib=>omega);rintro e w1 ⟨rfl,g2,k1,k2,k3,k4,k5⟩;have HO2:=Hd k1;have U2:=Hd k2;have G2:=Hd k3;have S2:=Hd (HS.out.trans k4);have P2:=Hd (k5.trans HP.out);clear k1 k2 k3 k4 k5)
   go_roundw
   case rel =>
    refine⟨b,g2,by omega,by omega,rfl,by simp,⟨fun c h1 h2=>?_⟩,⟨HSM.out.trans (G2.out.wide (Nat.zero_le _) c1)⟩,⟨HO2.out⟩,⟨S2.out⟩,⟨P2.out⟩⟩
    by_cases h3:c<a
    ·exact (HU.out c h1 h3).congr fun q _ h4=>G2.out.1 q (.inl zq4)
    ·have h5:c=a:=by omega
     rw[h5,hb];exact U2.out
   case measure=>simp[intOf];omega
  ·have bl:decide ((b:Int)<=(n:Int))=false:=DEF zq4
   go_wp2_with (go_at_call 166;(with_reducible refine (insertion_calls cf o OK blk cap n g' fn a n _ HO.out OK1.out ?ja ?jb hn hfn (fun x y w9 hx hy hs=>HC.out x y w9 hx hy (HS.out.trans hs))).mono ?_);(case ja=>omega);(case jb=>omega);rintro e w1 ⟨rfl,g2,k1,k2,k3,k4,k5⟩;have HO2:=Hd k1;have U2:=Hd k2;have G2:=Hd k3;have S2:=Hd (HS.out.trans k4);have P2:=Hd (k5.trans HP.out);clear k1 k2 k3 k4 k5)
   have HBL:=Hd (show Bl cf g2 20 n from fun c h1=>by
    by_cases h3:c<a
    ·have h4:=(HU.out c h1 h3).congr fun q _ h4=>G2.out.1 q (.inl zq4)
     rw[Nat.min_eq_left zq4];exact h4
    ·by_cases h5:c=a
     ·rw[h5,Nat.min_eq_right zq4];exact U2.out
     ·exact Up.one cf g2 _ _ zq4)
   have HSM2:=Hd (HSM.out.trans (G2.out.wide (Nat.zero_le _) (Nat.le_refl _)));clear HU HSM HO HS HP OK1 U2 G2
   go_loopw [6,7,8,9] (fun v6 v7 v8 v9 wr=>∃ (s:Nat) (g':Nat->El),0<s/\s<=2*n+20/\v6 = .int .i64 (s:Int)/\Aside0 (Bl cf g' s n)/\Aside0 (SameOn g g' 0 n)/\Aside0 (Holds enc 3 wr blk 41 n g')/\Aside0 (Step (OnlyB blk) (OnlyB blk) w wr)/\Aside0 ((row g' n).Perm (row g n))) (fun v6 v7 v8 v9 wr=>n - (intOf v6).toNat)
   case atStart=>exact⟨20,g2,by omega,by omega,rfl,⟨HBL.out⟩,⟨HSM2.out⟩,⟨HO2.out⟩,⟨S2.out⟩,⟨P2.out⟩⟩
   case round =>
    obtain⟨s,g3,hs0,hs1,rfl,HB,HSM,HO,HS,HP⟩:=hrel
    by_cases c2:s<n
    ·have bs:decide ((s:Int)<(n:Int))=true:=DET zq4
     obtain⟨t,ht⟩:∃ t:Nat,2*s=t:=⟨_,rfl⟩
     have et:2*(s:Int)=(t:Int):=by omega
     have et2:(s:Int)*2=(t:Int):=by omega
     have hst:s ∣ t:=⟨2,by omega⟩
     go_wp2
     go_loopw [7,8] (fun v7 v8 wr=>∃ (a:Nat) (g':Nat->El),a<=n/\t ∣ a/\v7 = .int .i64 (a:Int)/\v8 = .int .i64 ((a+t:Nat):Int)/\Aside0 (∀ c,t ∣ c->c<a->Up cf g' c (c+t))/\Aside0 (∀ c,s ∣ c->a<=c->Up cf g' c (min (c+s) n))/\Aside0 (SameOn g g' 0 n)/\Aside0 (Holds enc 3 wr blk 41 n g')/\Aside0 (Step (OnlyB blk) (OnlyB blk) w wr)/\Aside0 ((row g' n).Perm (row g n))) (fun v7 v8 wr=>n - (intOf v7).toNat)
     case atStart=>exact⟨0,g3,by omega,⟨0,rfl⟩,rfl,by simp,⟨fun c _ h=>absurd h (Nat.not_lt_zero c)⟩,⟨fun c h _=>HB.out c h⟩,⟨HSM.out⟩,⟨HO.out⟩,⟨HS.out⟩,⟨HP.out⟩⟩
     case round =>
      clear HB HSM HO HS HP;obtain⟨x,g',hx,hdx,rfl,rfl,HU,HV,HSM,HO,HS,HP⟩:=hrel;have OK1:=Hd (fun q (hq:q<n)=>same_ok HOK.out HSM.out (Nat.le_refl n) hq);obtain⟨y,hy⟩:∃ y,x+t=y:=⟨_,rfl⟩
      obtain⟨m,hm⟩:∃ m,x+s=m:=⟨_,rfl⟩
      rw[hy];have em:(x:Int)+(s:Int)=(m:Int):=by omega
      obtain⟨z,hz⟩:∃ z,y+t=z:=⟨_,rfl⟩
      have ey:(y:Int)+(t:Int)=(z:Int):=by omega
      have ey2:IntKind.i64.wrap ((y:Int)+(t:Int))=(z:Int):=by rw[IntKind.wrap_i64];omega
      have hsx:s ∣ x:=Nat.dvd_trans hst hdx;have hsm:s ∣ m:=by rw[<- hm];exact (Nat.dvd_add_right hsx).2 (Nat.dvd_refl s)
      by_cases c3:y<=n
      ·have bl:decide ((y:Int)<=(n:Int))=true:=DET zq4
       have UA:=Hd (show Up cf g' x m by have h:=HV.out x hsx (Nat.le_refl _);rw[hm,Nat.min_eq_left zq4] at h;exact h);have UB:=Hd (show Up cf g' m y by have h:=HV.out m hsm zq4;rw[show m+s=y by omega,Nat.min_eq_left c3] at h;exact h)
       go_wp2_with (go_at_call 167;(with_reducible refine (sym_calls cf o OK blk cap n fn hn hfn (y - x) g' x m y _ (Nat.le_refl _) ?ma ?mb ?mc HO.out OK1.out UA.out UB.out (fun x y w9 hx hy hs=>HC.out x y w9 hx hy (HS.out.trans hs))).mono ?_);(case ma=>omega);(case mb=>omega);(case mc=>omega);rintro e w1 ⟨rfl,g2,k1,k2,k3,k4,k5⟩;have HO2:=Hd k1;have U2:=Hd k2;have G2:=Hd k3;have S2:=Hd (HS.out.trans k4);have P2:=Hd (k5.trans HP.out);clear k1 k2 k3 k4 k5)
       go_roundw
       case rel =>
        refine⟨y,g2,c3,by rw[<- hy];exact (Nat.dvd_add_right hdx).2 (Nat.dvd_refl t),rfl,by rw[hz],⟨fun c h1 h2=>?_⟩,⟨fun c h1 h2=>?_⟩,⟨HSM.out.trans (G2.out.wide (Nat.zero_le _) c3)⟩,⟨HO2.out⟩,⟨S2.out⟩,⟨P2.out⟩⟩
        ·by_cases h3:c<x
         ·have h4:=dvd_gap hdx h1 h3
          exact (HU.out c h1 h3).congr fun q _ h5=>G2.out.1 q (.inl zq4)
         ·have h5:c=x:=by
           rcases Nat.lt_or_ge x c with h6 | h6
           ·have:=dvd_gap h1 hdx h6;omega
           ·omega
          rw[h5,hy];exact U2.out
        ·exact (HV.out c h1 zq4).congr fun q h5 _=>G2.out.1 q (.inr zq4)
       case measure=>simp[intOf];omega
      ·have bl:decide ((y:Int)<=(n:Int))=false:=DEF zq4
       have fin:∀ g4:Nat->El,(∀ q,q<x->g4 q=g' q)->Up cf g4 x n->Bl cf g4 t n:=fun g4 h6 h7 c h1=>by
        by_cases h3:c<x
        ·have h4:=dvd_gap hdx h1 h3
         rw[Nat.min_eq_left zq4];exact (HU.out c h1 h3).congr fun q _ h5=>h6 q zq4
        ·by_cases h5:c=x
         ·rw[h5,Nat.min_eq_right zq4];exact h7
         ·have:=dvd_gap h1 hdx zq4
          exact Up.one cf g4 _ _ zq4
       have FIN:=Hd fin;clear fin
       by_cases c4:m<n
       ·have bm:decide ((m:Int)<(n:Int))=true:=DET zq4
        have UA:=Hd (show Up cf g' x m by have h:=HV.out x hsx (Nat.le_refl _);rw[hm,Nat.min_eq_left zq4] at h;exact h);have UB:=Hd (show Up cf g' m n by have h:=HV.out m hsm zq4;rw[Nat.min_eq_right zq4] at h;exact h)
        go_wp2_with (go_at_call 167;(with_reducible refine (sym_calls cf o OK blk cap n fn hn hfn (n - x) g' x m n _ (Nat.le_refl _) ?na ?nb ?nc HO.out OK1.out UA.out UB.out (fun x y w9 hx hy hs=>HC.out x y w9 hx hy (HS.out.trans hs))).mono ?_);(case na=>omega);(case nb=>omega);(case nc=>omega);rintro e w1 ⟨rfl,g2,k1,k2,k3,k4,k5⟩;have HO2:=Hd k1;have U2:=Hd k2;have G2:=Hd k3;have S2:=Hd (HS.out.trans k4);have P2:=Hd (k5.trans HP.out);clear k1 k2 k3 k4 k5)
        go_roundw
        case rel=>exact⟨t,g2,by omega,by omega,rfl,⟨FIN.out g2 (fun q h=>G2.out.1 q (.inl h)) U2.out⟩,⟨HSM.out.trans (G2.out.wide (Nat.zero_le _) (Nat.le_refl _))⟩,⟨HO2.out⟩,⟨S2.out⟩,⟨P2.out⟩⟩
        case measure=>simp[intOf];omega
       ·have bm:decide ((m:Int)<(n:Int))=false:=DEF zq4
        have UA:=Hd (show Up cf g' x n by have h:=HV.out x hsx (Nat.le_refl _);rw[hm,Nat.min_eq_right zq4] at h;exact h);go_wp2;go_roundw
        case rel=>exact⟨t,g',by omega,by omega,rfl,⟨FIN.out g' (fun q _=>rfl) UA.out⟩,⟨HSM.out⟩,⟨HO.out⟩,⟨HS.out⟩,⟨HP.out⟩⟩
        case measure=>simp[intOf];omega
    ·have bs:decide ((s:Int)<(n:Int))=false:=DEF zq4
     have HU:=Hd (show Up cf g3 0 n by
      have h:=HB.out 0 ⟨0,rfl⟩;rw[Nat.min_eq_right zq4] at h;exact h)
     go_wp2
     go_end0
     exact⟨rfl,g3,HO.out,HU.out,HSM.out,HS.out,HP.out⟩
theorem sort_calls (cf:El->El->Int) (o:Ord cf) (OK:El->Prop) (blk cap n:Nat) (fn:Nat) (hn:n<=17592186044416) (hfn:∀ args w,(callFunc fn args).run Tryz.prog w = .ok (.enter fn args) w) (g:Nat->El) (w:World) (hH:Holds enc 3 w blk 41 n g) (hok:∀ i,i<n->OK (g i))
  (hcmp:∀ (x y:El) (w1:World),OK x->OK y->Step (OnlyB blk) (OnlyB blk) w w1->Calls Tryz.prog fn #[.agg #[.slice x.A x.row.length x.c,.int .i64 x.at',.int .i64 x.net],.agg #[.slice y.A y.row.length y.c,.int .i64 y.at',.int .i64 y.net]] w1 fun e w'=>e = .returned (.int .i64 (cf x y))/\Below w1.heap.size w1 w') :
  Calls Tryz.prog 103 #[.slice (some ⟨blk,0,none⟩) n cap,.func (.func fn) #[] #[]] w fun e w'=>e = .returned (.tuple #[]) /\ ∃ g',Holds enc 3 w' blk 41 n g'/\Up cf g' 0 n/\SameOn g g' 0 n/\Step (OnlyB blk) (OnlyB blk) w w'/\(row g' n).Perm (row g n):=by
 have SC:=Hd (stable_calls cf o OK blk cap n fn hn hfn g w hH hok hcmp);clear hH hok hcmp;go_enter Tryz.func103,Tryz.ntmps103
 go_wp2_with ((with_reducible refine SC.out.mono ?_);rintro e w1 ⟨rfl,g2,k1,k2,k3,k4,k5⟩;have HO2:=Hd k1;have U2:=Hd k2;have G2:=Hd k3;have S2:=Hd k4;have P2:=Hd k5;clear k1 k2 k3 k4 k5)
 go_end0
 exact⟨rfl,g2,HO2.out,U2.out,G2.out,S2.out,P2.out⟩
end Go.Proofs.YtmkgecapkeojaaaGreat.SortE
end
section
namespace Go.Proofs.YtmkgecapkeojaaaGreat.SortE
open Go RowKit YtmkgecapkeojaaaGreatW.PrintWords YtmkgecapkeojaaaGreatW.PrintLast YtmkgecapkeojaaaGreatW.PrintMore
theorem insertion_nil (c fn:Nat) (w:World):Calls Tryz.prog 166 #[.slice none 0 c,.int .i64 0,.int .i64 0,.func (.func fn) #[] #[]] w fun e w'=>e = .returned (.tuple #[])/\w'=w:=by
 go_enter Tryz.func166,Tryz.ntmps166;go_wp2
 go_loopw [8] (fun v8 wr=>v8 = .int .i64 1/\Aside0 (wr=w)) (fun v8 wr=>0)
 case atStart=>exact⟨rfl,⟨rfl⟩⟩
 case round =>
  obtain⟨rfl,HW⟩:=hrel;go_wp2
  go_end0
  exact⟨rfl,HW.out⟩
theorem stable_nil (c fn:Nat) (w:World):Calls Tryz.prog 147 #[.slice none 0 c,.int .i64 0,.func (.func fn) #[] #[]] w fun e w'=>e = .returned (.tuple #[])/\w'=w:=by
 go_enter Tryz.func147,Tryz.ntmps147;go_wp2
 go_loopw [7,8] (fun v7 v8 wr=>v7 = .int .i64 0/\v8 = .int .i64 20/\Aside0 (wr=w)) (fun v7 v8 wr=>0)
 case atStart=>exact⟨rfl,rfl,⟨rfl⟩⟩
 case round =>
  obtain⟨rfl,rfl,HW⟩:=hrel
  go_wp2_with (go_at_call 166;(with_reducible refine (insertion_nil c fn _).mono ?_);rintro e w1 ⟨rfl,h1⟩;have HW1:=Hd (h1.trans HW.out);clear h1)
  go_loopw [6] (fun v6 wr=>v6 = .int .i64 20/\Aside0 (wr=w)) (fun v6 wr=>0)
  case atStart=>exact⟨rfl,⟨HW1.out⟩⟩
  case round =>
   obtain⟨rfl,HW2⟩:=hrel;go_wp2
   go_end0
   exact⟨rfl,HW2.out⟩
theorem sort_nil (c fn:Nat) (w:World):Calls Tryz.prog 103 #[.slice none 0 c,.func (.func fn) #[] #[]] w fun e w'=>e = .returned (.tuple #[])/\w'=w:=by
 go_enter Tryz.func103,Tryz.ntmps103
 go_wp2_with (go_at_call 147;(with_reducible refine (stable_nil c fn _).mono ?_);rintro e w1 ⟨rfl,rfl⟩)
 go_end0
 exact⟨rfl,rfl⟩
end Go.Proofs.YtmkgecapkeojaaaGreat.SortE
end
section
namespace Go.Proofs.YtmkgecapkeojaaaGreat.Eg
open PDa
open RowKit YtmkgecapkeojaaaGreatW.PrintWords YtmkgecapkeojaaaGreatW.PrintLast YtmkgecapkeojaaaGreatW.PrintMore
open SortP SortM Run Stp Rw
abbrev El:=SortE.El
def kEl:Kd El where
 sz:=3
 E:=[]
 K:=fun _ x cs=>cs=SortE.enc x
 M:=fun _ _ _ x cs=>cs=SortE.enc x
 K_len:=fun h=>by rw[h];rfl
 K_one:=fun h u hu=>by
  rw[h] at hu;simp only[SortE.enc,List.mem_cons,List.not_mem_nil,or_false] at hu
  rcases hu with rfl | rfl | rfl <;> rfl
 K_below:=fun _ h=>h
 K_of_M:=fun h=>h
 M_mono:=fun _ h=>h
 M_bound:=fun h=>h
 M_move:=fun _ h=>h
 M_lower:=fun _ h=>h
def edP (x:El):EdP:=⟨x.row,x.at',x.net⟩
def rowE (g:Nat->El) (n:Nat):List EdP:=(row g n).map edP
theorem rowE_len (g:Nat->El) (n:Nat):(rowE g n).length=n:=by simp[rowE,row_len]
theorem rowE_get (g:Nat->El) (n i:Nat) (h:i<(rowE g n).length):(rowE g n)[i]=edP (g i):=by simp[rowE,row]
def OkEl (w:World) (x:El):Prop:=Kd.C kV w x.A x.row.length x.row/\x.row.length<=x.c
theorem els_of {w:World} {A:Option Addr} {l:List EdP} (h:Kd.C kE w A l.length l):∃ g:Nat->El,Kd.C kEl w A l.length (row g l.length)/\rowE g l.length=l /\ ∀ i,i<l.length->OkEl w (g i):=by
 have hx:∀ i, ∃ x:El,i<l.length -> ∃ ad,A=some ad/\edP x=l.getD i z41/\OkEl w x /\ ∀ j u,(SortE.enc x)[j]? = some u->w.cell? (ad.add (i*3+j))=some u:=by
  intro i
  by_cases hi:i<l.length
  ·obtain⟨ad,e,hc⟩:=h.2.2 zq4
   obtain⟨c,hl,hK,hcc⟩:=hc i _ (List.getElem?_eq_getElem hi);obtain⟨A0,c0,rfl,hle,hC⟩:=k41_open hK;refine⟨⟨A0,c0,l[i].f0,l[i].f1,l[i].f2⟩,fun _=>⟨ad,e,?_,⟨hC,hle⟩,hcc⟩⟩;rw[List.getD_eq_getElem?_getD,List.getElem?_eq_getElem hi]
   rfl
  ·exact⟨⟨none,0,[],0,0⟩,fun h=>absurd h hi⟩
 obtain⟨g,hg⟩:=Classical.axiomOfChoice hx;refine⟨g,⟨by rw[row_len],h.2.1,fun hp=>?_⟩,?_,fun i hi=>(hg i hi).choose_spec.2.2.1⟩
 ·obtain⟨ad,e,_⟩:=hg 0 hp
  refine⟨ad,e,fun j p hj=>?_⟩;have hjl:j<l.length:=by have:=(List.getElem?_eq_some_iff.1 hj).1;rwa [row_len] at this
  obtain⟨ad',e',_,_,hc⟩:=hg j hjl;obtain rfl:ad=ad':=OSI (e.symm.trans e');have hp':p=g j:=by
   obtain⟨_,h2⟩:=List.getElem?_eq_some_iff.1 hj;rw[<- h2];simp[row]
  subst hp';exact⟨_,rfl,rfl,hc⟩
 ·refine List.ext_getElem (rowE_len _ _) fun i h1 h2=>?_
  rw[rowE_get];obtain⟨_,_,e,_⟩:=hg i h2;rw[e,List.getD_eq_getElem?_getD,List.getElem?_eq_getElem h2]
  rfl
theorem C_of_holds {W:World} {blk n:Nat} {g:Nat->El} (h:Holds SortE.enc 3 W blk 41 n g) (hn:n<=9223372036854775807) (hok:∀ i,i<n->OkEl W (g i)):Kd.C kE W (some ⟨blk,0,none⟩) n (rowE g n):=by
 refine⟨rowE_len g n,hn,fun hp=>⟨_,rfl,fun j p hj=>?_⟩⟩;obtain⟨hl,e⟩:=List.getElem?_eq_some_iff.1 hj;rw[rowE_get] at e;rw[rowE_len] at hl;subst e;obtain⟨h1,h2⟩:=hok j hl;refine⟨SortE.enc (g j),rfl,k41_mk W (edP (g j)) h2 h1,fun i u hu=>?_⟩;have:=h.cell (i:=j) (j:=i) hl hu
 show W.cell? ((⟨blk,0,none⟩:Addr).add (j*3+i))=some u
 rw[show (⟨blk,0,none⟩:Addr).add (j*3+i)=⟨blk,j*3+i,none⟩ by unfold Addr.add;split <;> simp_all];exact this
theorem holds_of_El {W:World} {base:Nat} {ok:Nat->Prop} {v:Value} {n:Nat} {g:Nat->El} (h:Kd.R kEl tE W base ok v (row g n)) (hn:0<n) :
  ∃ b cap,v = .slice (some ⟨b,0,none⟩) n cap/\base<=b/\Holds SortE.enc 3 W b 41 n g:=by
 obtain⟨_,inner,ho,hr⟩:=h;rw[row_len] at ho
 rcases ho.2 with ⟨_,h0⟩ | ⟨b,cap,cur,rfl,hg,hh,h1,h2,h3,h4⟩
 ·omega
 ·refine⟨b,cap,rfl,hg,cur,hh,?_,fun i j u hi hu=>?_⟩
  ·rw[h3];exact Nat.mul_le_mul_right 3 h1
  ·have hx:(row g n)[i]? = some (g i):=by rw[List.getElem?_eq_getElem (by rw[row_len];exact hi)];simp[row]
   have e:(inner.drop (i*3)).take 3=SortE.enc (g i):=hr.2 i _ hx;have hj:j<3:=(List.getElem?_eq_some_iff.1 hu).1;have e2:inner[i*3+j]? = some u:=by
    rw[<- e,List.getElem?_take_of_lt hj,List.getElem?_drop] at hu;exact hu
   rw[<- h4] at e2;rw[List.getElem?_take_of_lt (by have:=(List.getElem?_eq_some_iff.1 e2).1;simp at this;omega),Array.getElem?_toList] at e2;exact e2
theorem clone_El (A0:Option Addr) (c0:Nat) (l0:List El) (w:World) (hr0:Kd.C kEl w A0 l0.length l0) (hlen:l0.length<=1099511627776) :
  Calls Tryz.prog 102 #[.slice A0 l0.length c0] w fun e w'=>∃ v0_:Value,e = .returned v0_/\Kd.R kEl 41 w' w.heap.size (fun _=>True) v0_ l0/\Below w.heap.size w w':=by
 have hu22:Tryz.prog.underlying 22=some (.slice 41):=by kernel_rfl
 have LM:=Aside0.mk hlen;clear hlen;have HR0:=Aside0.mk hr0;clear hr0;have HB:=Aside0.mk (Below.refl w.heap.size w);cases A0 with
 | none =>
  have hn:∀ w:World,(binOp .eql 22 (.slice none l0.length c0) (.slice none 0 0)).run Tryz.prog w = .ok (.bool true) w:=fun w=>Lib.run_eql_slice_nil w _ _ none l0.length c0 0 0 hu22
  have h0:l0=[]:=by
   have:=HR0.out.2.2
   rcases l0 with _ | ⟨x,xs⟩
   ·rfl
   ·obtain⟨ad,h',_⟩:=this zq30
    cases h'
  replace h0:=Hd h0;go_enter Tryz.func102,Tryz.ntmps102;go_wp2;go_ret;exact⟨_,rfl,by rw[h0.out];exact Kd.R_nil _ _ _ _ _,Below.refl _ _⟩
 | some ad =>
  have hn:∀ w:World,(binOp .eql 22 (.slice (some ad) l0.length c0) (.slice none 0 0)).run Tryz.prog w = .ok (.bool false) w:=fun w=>Lib.run_eql_slice_nil w _ _ (some ad) l0.length c0 0 0 hu22
  go_enter Tryz.func102,Tryz.ntmps102
  go_wp2_with (first
   | ((with_reducible refine gate_dst (N:=5) rfl ?_);refine Kd.R_lit kEl _ 41 ?hg (N:=5) ?hd (xs:=([]:List El)) (inner:=[]) (ok:=fun _=>True) (okp:=fun _=>True) ?hr ?hp (fun _ hk=>hk) trivial (Below.refl _ _) (Nat.le_refl _) zq30 ?_;(case hd=>rfl);(case hg=>rfl);(case hr=>first | (go_simp;done) | (go_simp;rfl));(case hp=>exact (Reps.none _ _));intro v159 w23 ho24 hb hg_ hnew_;clear hg_ hnew_;have HO:=Aside0.mk (Kd.R_lower ho24 (below_size HB.out));have HR1:=Aside0.mk (Kd.C_below HR0.out hb);have HB1:=Aside0.mk (below_step HB.out hb);clear hb ho24)
   | ((with_reducible refine gate_dst (N:=7) rfl ?_);refine Kd.R_append_rows kEl (w0:=w) w.heap.size rfl (.tmp 5) (.tmp 6) 22 41 (.agg #[.slice none 0 0,(.int .i64 0),(.int .i64 0)]) 40 rfl hu22 info41 rfl zq34 zq4 v159 [] l0 _ _ _ (fun _=>True) (fun _=>False) rfl rfl ?aO ?aR (fun _ _ h=>h) (fun _ h=>h.elim) (fun _ _=>trivial) ?aB ?aS ?aL ?_;(case aO=>exact HO.out);(case aR=>exact HR1.out);(case aB=>exact HB1.out);(case aS=>exact below_size HB1.out);(case aL=>have:=LM.out;simp only[List.length_nil,Nat.zero_add];omega);intro v167 w26 ho hb hg hat;have HO2:=Aside0.mk ho;have HB2:=Aside0.mk hb;clear ho hb hg hat))
  go_ret;exact⟨_,rfl,HO2.out,HB2.out⟩
theorem normJ_len (f:List Jp):(normJ f).1.length<=1000000000:=by
 have ht:∀ z:List Jp,(toldJ z).1.length<=1000000000:=by
  intro z;unfold toldJ
  split
  ·rename_i h
   unfold mayJ at h;rw[Bool.and_eq_true] at h;have:=ODT h.1
   show z.length<=_
   omega
  ·exact Nat.zero_le _
 unfold normJ
 repeat' split
 all_goals first | exact Nat.zero_le _ | exact ht _
theorem norm4_calls (A0:Option Addr) (c0:Nat) (f:List Jp) (w:World) (hr0:Kd.C kJ w A0 f.length f) (hc0:f.length<=c0) (hl:f.length<=1099511627776) :
  Calls Tryz.prog 108 #[.slice A0 f.length c0] w fun e w'=>∃ v,e = .returned (.tuple #[v,.int .i64 (normJ f).2])/\Kd.R kJ 85 w' 0 (fun _=>True) v (normJ f).1/\Below w.heap.size w w':=by
 have NC:=Hd (Stp.norm_calls A0 c0 f w hr0 hc0 hl);obtain⟨r,hr⟩:∃ r,normJ f=r:=⟨_,rfl⟩
 rw[hr] at NC ⊢;clear hr0 hc0 hl hr;go_enter Tryz.func108,Tryz.ntmps108
 go_wp2_with ((with_reducible refine NC.out.mono ?_);rintro e w' ⟨v,rfl,hR,hb⟩;have HRR:=Hd hR;have HB:=Hd hb;clear hR hb)
 go_ret2;exact⟨v,rfl,Kd.R_lower HRR.out (Nat.zero_le _),HB.out⟩
def cfE (x y:El):Int:=keyC (x.row,x.at') (y.row,y.at')
theorem cfE_ord:Ord cfE:=by
 refine⟨fun x y h1 h2=>?_,fun x y z h1 h2=>?_⟩
 ·have:=(keyC_is.anti _ _).1 h1
  unfold cfE at h2;omega
 ·exact keyC_is.not_lt.2 (keyC_is.le_trans (keyC_is.not_lt.1 h1) (keyC_is.not_lt.1 h2))
def keyE (e:EdP):List Vl × Int:=(e.f0,e.f1)
def SortedE (s:List EdP):Prop:=s.Pairwise fun a b=>¬ keyC (keyE b) (keyE a)<0
def NormIs (l:List EdP) (r:List EdP × Int):Prop :=
 (l.any argE=true/\r=([],2))\/(l.any argE=false/\l.any (fun x=>timeB x.f1)=true/\r=([],13)) \/
  (l.any argE=false/\l.any (fun x=>timeB x.f1)=false /\ ∃ s,s.Perm l/\SortedE s/\r=mapP normJ s)
theorem sortedE_of {g:Nat->El} {n:Nat} (h:Up cfE g 0 n):SortedE (rowE g n):=by
 unfold SortedE;rw[List.pairwise_iff_getElem];intro i j hi hj hij;rw[rowE_get,rowE_get];rw[rowE_len] at hj;exact h i j (Nat.zero_le _) hij hj
theorem argE_may {x:EdP} (h:argE x=false):rowMay x.f0=true:=by
 unfold argE at h;simp only[Bool.or_eq_false_iff] at h;simp_all
theorem sort_hcmp {w w3:World} {blk:Nat} (hb3:Below w.heap.size w w3) (hbk:w.heap.size<=blk) (x y:El) (w1:World) (hx:OkEl w x/\rowMay x.row=true) (hy:OkEl w y/\rowMay y.row=true) (hs:Step (OnlyB blk) (OnlyB blk) w3 w1) :
  Calls Tryz.prog 104 #[.agg #[.slice x.A x.row.length x.c,.int .i64 x.at',.int .i64 x.net],.agg #[.slice y.A y.row.length y.c,.int .i64 y.at',.int .i64 y.net]] w1 fun e w'=>e = .returned (.int .i64 (cfE x y))/\Below w1.heap.size w1 w':=by
 have hb:Below w.heap.size w w1:=hb3.trans (hs.below hb3.size (fun b h=>by rw[show b=blk from h];exact hbk));refine (Eg.norm3_calls (edP x) (edP y) x.A y.A x.c y.c w1 (Kd.C_below hx.1.1 hb) (Kd.C_below hy.1.1 hb) hx.1.2 hy.1.2).mono fun e w' h=>?_
 refine⟨?_,h.2⟩;rw[h.1]
 show Ending.returned (.int .i64 (orI (cmpR x.row y.row) (Cmp.icmp x.at' y.at')))=_
 rw[cmpR_rC hx.2 hy.2];unfold cfE keyC Cmp.pairC orI
 by_cases e0:rC x.row y.row=0
 ·rw[if_neg (by simp[e0]),if_pos e0]
 ·rw[if_pos e0,if_neg e0]
theorem normE_err (A0:Option Addr) (c0:Nat) (l:List EdP) (w:World) (hr0:Kd.C kE w A0 l.length l) (hl:l.length<=68719476736) (h:l.any argE=true\/(l.any argE=false/\l.any (fun x=>timeB x.f1)=true)) :
  Calls Tryz.prog 65 #[.slice A0 l.length c0] w fun e w'=>e = .returned (.tuple #[.slice none 0 0,.int .i64 (if l.any argE=true then 2 else 13)])/\Below w.heap.size w w':=by
 have F1:=Hd (has_edge argE 100 A0 c0 l w (fun x A c w2 _ _ hC hc=>Eg.norm1_calls x A c w2 hC hc) (Go.Proofs.enters_of Tryz.func100 zq17 rfl) hr0 zq4);have F2:=Hd (fun (w1:World) (hb:Below w.heap.size w w1)=>has_edge (fun x=>timeB x.f1) 101 A0 c0 l w1 (fun x A c w2 _ _ hC hc=>Eg.norm2_calls x A c w2) (Go.Proofs.enters_of Tryz.func101 zq17 rfl) (Kd.C_below hr0 hb) zq4)
 rcases h with h | ⟨h,h2⟩
 ·rw[h] at F1
  rw[if_pos h];clear hr0 hl h F2;go_enter Tryz.func65,Tryz.ntmps65
  go_wp2_with (with_reducible refine F1.out.mono ?_;rintro e w1 ⟨rfl,hb1⟩;have HB1:=Hd hb1;clear hb1)
  go_ret2;exact⟨rfl,HB1.out⟩
 ·rw[h] at F1
  rw[h2] at F2;rw[if_neg (by rw[h];decide)];clear hr0 hl h h2;go_enter Tryz.func65,Tryz.ntmps65
  go_wp2_with (first
   | (with_reducible refine F1.out.mono ?_;rintro e w1 ⟨rfl,hb1⟩;have HB1:=Hd hb1;clear hb1)
   | (with_reducible refine (F2.out _ HB1.out).mono ?_;rintro e w2 ⟨rfl,hb2⟩;have HB2:=Hd (HB1.out.trans (hb2.mono HB1.out.size));clear hb2))
  go_ret2;exact⟨rfl,HB2.out⟩
theorem sort_El {w w2 w3:World} {v:Value} {g:Nat->El} {n:Nat} (hn:n<=68719476736) (hR:Kd.R kEl tE w3 w2.heap.size (fun _=>True) v (row g n)) (hb2:Below w.heap.size w w2) (hb3:Below w.heap.size w w3) (hok:∀ i,i<n->OkEl w (g i)/\rowMay (g i).row=true) :
  ∃ A c,v = .slice A n c/\Calls Tryz.prog 103 #[.slice A n c,.func (.func 104) #[] #[]] w3 fun e w'=>e = .returned (.tuple #[]) /\ ∃ s,s.Perm (rowE g n)/\SortedE s/\s.length=n/\Kd.C kE w' A n s/\Below w.heap.size w w':=by
 rcases Nat.eq_zero_or_pos n with h0 | h0
 ·subst h0
  obtain⟨_,inner,ho,hr⟩:=hR;rw[show (row g 0)=[] from rfl] at ho
  rcases ho.2 with ⟨rfl,_⟩ | ⟨b,cap,cur,rfl,hg,hh,h1,h2,h3,h4⟩
  ·exact⟨none,0,rfl,(SortE.sort_nil 0 _ w3).mono fun e w' h=>⟨h.1,[],List.Perm.refl _,List.Pairwise.nil,rfl,⟨rfl,by omega,fun h=>absurd h zq4⟩,by rw[h.2];exact hb3⟩⟩
  ·refine⟨_,cap,rfl,(SortE.sort_calls cfE cfE_ord (fun _=>False) b cap 0 104 zq4 (Go.Proofs.enters_of Tryz.func104 zq17 rfl) g w3 ⟨cur,hh,by omega,fun i j u hi _=>absurd hi (Nat.not_lt_zero _)⟩ (fun i hi=>absurd hi (Nat.not_lt_zero _)) (fun x y w9 hx _ _=>hx.elim)).mono fun e w' h=>?_⟩
   ·obtain⟨h0,g',_,_,_,hs,_⟩:=h
    exact⟨h0,[],List.Perm.refl _,List.Pairwise.nil,rfl,⟨rfl,by omega,fun h=>absurd h zq4⟩,hb3.trans (hs.below hb3.size (fun b' hb'=>by rw[show b'=b from hb'];exact Nat.le_trans hb2.size hg))⟩
 ·obtain⟨b,cap,rfl,hbk,hH⟩:=holds_of_El hR h0
  have hbk':w.heap.size<=b:=Nat.le_trans hb2.size hbk;refine⟨_,cap,rfl,(SortE.sort_calls cfE cfE_ord (fun x=>OkEl w x/\rowMay x.row=true) b cap n 104 zq4 (Go.Proofs.enters_of Tryz.func104 zq17 rfl) g w3 hH hok (fun x y w9 hx hy hs=>sort_hcmp hb3 hbk' x y w9 hx hy hs)).mono fun e w' h=>?_⟩;obtain⟨h1,g',k1,k2,k3,k4,k5⟩:=h;have hbw:Below w.heap.size w w':=hb3.trans (k4.below hb3.size (fun b' hb'=>by rw[show b'=b from hb'];exact hbk'));refine⟨h1,rowE g' n,k5.map edP,sortedE_of k2,rowE_len _ _,C_of_holds k1 zq4 (fun i hi=>?_),hbw⟩;have hm:g' i ∈ row g n:=k5.mem_iff.1 (List.mem_map.2 ⟨i,List.mem_range.2 hi,rfl⟩);obtain⟨q,hq,e'⟩:=List.mem_map.1 hm;rw[<- e'];have:=(hok q (List.mem_range.1 hq)).1;exact⟨Kd.C_below this.1 hbw,this.2⟩
theorem normE_ok (A0:Option Addr) (c0:Nat) (l:List EdP) (w:World) (hr0:Kd.C kE w A0 l.length l) (hl:l.length<=68719476736) (h:l.any argE=false) (h2:l.any (fun x=>timeB x.f1)=false) :
  Calls Tryz.prog 65 #[.slice A0 l.length c0] w fun e w'=>∃ v s,s.Perm l/\SortedE s/\e = .returned (.tuple #[v,.int .i64 (mapP normJ s).2])/\Kd.R kE tE w' w.heap.size (fun _=>True) v (mapP normJ s).1/\Below w.heap.size w w':=by
 obtain⟨g,hG,hrow,hok⟩:=els_of hr0;have hmay:∀ i,i<l.length->rowMay (g i).row=true:=by
  intro i hi;have hm:edP (g i) ∈ l:=by
   rw[<- hrow];exact List.mem_map_of_mem (List.mem_map.2 ⟨i,List.mem_range.2 hi,rfl⟩)
  have:=(List.any_eq_false.1 h) _ hm;exact argE_may (x:=edP (g i)) (by simpa using this)
 have F1:=Hd (has_edge argE 100 A0 c0 l w (fun x A c w2 _ _ hC hc=>Eg.norm1_calls x A c w2 hC hc) (Go.Proofs.enters_of Tryz.func100 zq17 rfl) hr0 zq4);have F2:=Hd (fun (w1:World) (hb:Below w.heap.size w w1)=>has_edge (fun x=>timeB x.f1) 101 A0 c0 l w1 (fun x A c w2 _ _ hC hc=>Eg.norm2_calls x A c w2) (Go.Proofs.enters_of Tryz.func101 zq17 rfl) (Kd.C_below hr0 hb) zq4);have F3:=Hd (fun (w1:World) (hb:Below w.heap.size w w1)=>clone_El A0 c0 (row g l.length) w1 (by rw[row_len];exact Kd.C_below hG hb) (by rw[row_len];omega));have F4:=Hd (fun (v:Value) (w2 w3:World) (hR:Kd.R kEl tE w3 w2.heap.size (fun _=>True) v (row g l.length)) (hb2:Below w.heap.size w w2) (hb3:Below w.heap.size w w3)=>sort_El hl hR hb2 hb3 (fun i hi=>⟨hok i hi,hmay i hi⟩));have F5:=Hd (fun (A:Option Addr) (c:Nat) (s:List EdP) (w4:World) (hp:s.Perm l) (hC:Kd.C kE w4 A s.length s)=>mapped_calls normJ 108 #[] A c s w4 hC (by rw[hp.length_eq];exact hl) (fun e he=>by
  have:=(List.any_eq_false.1 h) e (hp.mem_iff.1 he);have h3:=argE_may (x:=e) (by simpa using this);unfold rowMay at h3;rw[Bool.and_eq_true] at h3;have:=ODT h3.1;omega) (Go.Proofs.enters_of Tryz.func108 zq17 rfl) normJ_len (fun A c f W1 _ hfl hR=>norm4_calls A c f W1 (Kd.R_reads' hR).2.2 (Kd.R_reads' hR).2.1 (by have:=hp.length_eq;omega)))
 rw[row_len] at F3;rw[h] at F1;rw[h2] at F2;have HROW:=Hd hrow;clear hr0 hl h h2 hG hok hmay hrow;go_enter Tryz.func65,Tryz.ntmps65
 go_wp2_with (first
  | (with_reducible refine F1.out.mono ?_;rintro e w1 ⟨rfl,hb1⟩;have HB1:=Hd hb1;clear hb1)
  | (with_reducible refine (F2.out _ HB1.out).mono ?_;rintro e w2 ⟨rfl,hb2⟩;have HB2:=Hd (HB1.out.trans (hb2.mono HB1.out.size));clear hb2)
  | (go_at_call 102;(with_reducible refine (F3.out _ HB2.out).mono ?_);rintro e w3 ⟨v4,rfl,hR,hb3⟩;have HB3:=Hd (HB2.out.trans (hb3.mono HB2.out.size));obtain⟨A4,c4,rfl,hS⟩:=F4.out v4 w2 w3 hR HB2.out HB3.out;have SC:=Hd hS;clear hb3 hR hS)
  | (go_at_call 103;(with_reducible refine SC.out.mono ?_);rintro e w4 ⟨rfl,s,hp,hs,hsl,hC,hb4⟩;rw[HROW.out] at hp;rw[<- hsl] at hC;have HP:=Hd hp;have HSO:=Hd hs;have HB4:=Hd hb4;have MC:=Hd (F5.out A4 c4 s w4 hp hC);rw[hsl] at MC;clear hp hs hC hb4)
  | (go_at_call 107;(with_reducible refine MC.out.mono ?_);rintro e w5 ⟨v5,rfl,hR5,hb5⟩;have HR5:=Hd hR5;have HB5:=Hd (HB4.out.trans (hb5.mono HB4.out.size));have HS4:=Hd HB4.out.size;clear hR5 hb5))
 go_ret2;exact⟨v5,s,HP.out,HSO.out,rfl,Kd.R_lower HR5.out HS4.out,HB5.out⟩
theorem NormE_calls (A0:Option Addr) (c0:Nat) (l:List EdP) (w:World) (hr0:Kd.C kE w A0 l.length l) (hl:l.length<=68719476736) :
  Calls Tryz.prog 65 #[.slice A0 l.length c0] w fun e w'=>∃ v r,NormIs l r/\e = .returned (.tuple #[v,.int .i64 r.2])/\Kd.R kE tE w' w.heap.size (fun _=>True) v r.1/\Below w.heap.size w w':=by
 cases h:l.any argE with
 | true =>
  refine (normE_err A0 c0 l w hr0 hl (.inl h)).mono fun e w' z=>⟨_,([],2),.inl ⟨h,rfl⟩,?_,Kd.R_nil _ _ _ _ _,z.2⟩
  rw[z.1,if_pos h]
 | false =>
  cases h2:l.any (fun x=>timeB x.f1) with
  | true =>
   refine (normE_err A0 c0 l w hr0 hl (.inr ⟨h,h2⟩)).mono fun e w' z=>⟨_,([],13),.inr (.inl ⟨h,h2,rfl⟩),?_,Kd.R_nil _ _ _ _ _,z.2⟩
   rw[z.1,if_neg (by rw[h];decide)]
  | false =>
   refine (normE_ok A0 c0 l w hr0 hl h h2).mono fun e w' ⟨v,s,hp,hs,he,hR,hb⟩=>⟨v,mapP normJ s,.inr (.inr ⟨h,h2,s,hp,hs,rfl⟩),he,hR,hb⟩
end Go.Proofs.YtmkgecapkeojaaaGreat.Eg
end
section
namespace Go.Proofs.YtmkgecapkeojaaaGreat.Eg
open PDa
open RowKit YtmkgecapkeojaaaGreatW.PrintWords YtmkgecapkeojaaaGreatW.PrintLast YtmkgecapkeojaaaGreatW.PrintMore
open SortM Run Stp Rw
def buildP (r:List Vl) (f:List Jp):List EdP:=if (rowMay r && mayJ f)=true then putP [] r f else []
theorem rowMay_len {r:List Vl} (h:rowMay r=true):r.length<=8:=by
 unfold rowMay at h;rw[Bool.and_eq_true] at h;exact ODT h.1
theorem mayJ_len {f:List Jp} (h:mayJ f=true):f.length<=1024:=by
 unfold mayJ at h;rw[Bool.and_eq_true] at h;exact ODT h.1
theorem grown_none {W W1:World} {v:Value} (hv:v.ownBlock=none) (h:W.grownBy W1 v.ownBlock):Below W.heap.size W W1:=⟨h.os,h.tape,h.output,h.size,fun b hb=>h.block b hb (by rw[hv];intro e;cases e)⟩
theorem Build_calls (A1:Option Addr) (c1:Nat) (r:List Vl) (A2:Option Addr) (c2:Nat) (f:List Jp) (w:World)
  (hr:Kd.R kV tV w 0 (fun _=>True) (.slice A1 r.length c1) r) (hf:Kd.R kJ tJ w 0 (fun _=>True) (.slice A2 f.length c2) f) :
  Calls Tryz.prog 49 #[.slice A1 r.length c1,.slice A2 f.length c2] w fun e w'=>∃ v1,e = .returned v1/\Kd.R kE tE w' w.heap.size (fun _=>True) v1 (buildP r f)/\Below w.heap.size w w':=by
 have M:=Hd (fun (w1:World) (h:Below w.heap.size w w1)=>row_May.calls A1 c1 r (rowMay r) w1 (Kd.R_reads' (Kd.R_below hr h)).2.2 (Kd.R_reads' hr).2.1 rfl);have N:=Hd (fun (w1:World) (h:Below w.heap.size w w1)=>may_any A2 c2 f w1 (Kd.R_reads' (Kd.R_below hf h)).2.2 (Kd.R_reads' hf).2.1);obtain⟨o,ho⟩:∃ o,buildP r f=o:=⟨_,rfl⟩
 rw[ho];cases hm:rowMay r with
 | false =>
  rw[hm] at M;have HO:=Hd (show o=[] by rw[<- ho];unfold buildP;rw[hm];rfl);clear hr hf ho hm;go_enter Tryz.func49,Tryz.ntmps49
  go_wp2_with (first | ((with_reducible refine (M.out _ (Below.refl _ _)).mono ?_);rintro e w1 ⟨rfl,hb1⟩;have HB1:=Hd hb1;clear hb1))
  go_ret;exact⟨_,rfl,by rw[HO.out];exact Kd.R_nil _ _ _ _ _,HB1.out⟩
 | true =>
  rw[hm] at M;cases hj:mayJ f with
  | false =>
   rw[hj] at N;have HO:=Hd (show o=[] by rw[<- ho];unfold buildP;rw[hm,hj];rfl);clear hr hf ho hm hj;go_enter Tryz.func49,Tryz.ntmps49
   go_wp2_with (first | ((with_reducible refine (M.out _ (Below.refl _ _)).mono ?_);rintro e w1 ⟨rfl,hb1⟩;have HB1:=Hd hb1;clear hb1) | ((with_reducible refine (N.out _ HB1.out).mono ?_);rintro e w2 ⟨rfl,hb2⟩;have HB2:=Hd (HB1.out.trans (hb2.mono HB1.out.size));clear hb2))
   go_ret;exact⟨_,rfl,by rw[HO.out];exact Kd.R_nil _ _ _ _ _,HB2.out⟩
  | true =>
   rw[hj] at N;have HO:=Hd (show o=putP [] r f by rw[<- ho];unfold buildP;rw[hm,hj];rfl);have h8:=rowMay_len hm;have h10:=mayJ_len hj;have P:=Hd (fun (w1:World) (h:Below w.heap.size w w1)=>put_calls w1.heap.size (fun _=>True) (.slice none 0 0) [] A1 c1 r A2 c2 f w1 (Kd.R_nil _ _ _ _ _) (Nat.le_refl _) (fun _ _=>trivial) (Kd.R_below hr h) (Kd.R_below hf h) zq4 zq33);clear hr hf ho hm hj h8 h10;go_enter Tryz.func49,Tryz.ntmps49
   go_wp2_with (first | ((with_reducible refine (M.out _ (Below.refl _ _)).mono ?_);rintro e w1 ⟨rfl,hb1⟩;have HB1:=Hd hb1;clear hb1) | ((with_reducible refine (N.out _ HB1.out).mono ?_);rintro e w2 ⟨rfl,hb2⟩;have HB2:=Hd (HB1.out.trans (hb2.mono HB1.out.size));clear hb2) | ((with_reducible refine (P.out _ HB2.out).mono ?_);rintro e w3 ⟨v3,rfl,hR,hg,_⟩;have HB3:=Hd (HB2.out.trans ((grown_none rfl hg).mono HB2.out.size));have HR3:=Hd (Kd.R_lower hR HB2.out.size);clear hR hg))
   go_ret;exact⟨_,rfl,by rw[HO.out];exact HR3.out,HB3.out⟩
attribute [local go_sem] Oper.semAt_some
abbrev Op8:=S68
abbrev kO:=k68
theorem groups_iter (n:Nat) (hn:8<=n) (A0:Option Addr) (c0:Nat) (l:List EdP) (wE w:World) (hr0:Kd.C kE wE A0 l.length l) (hE:Below wE.heap.size wE w) (hmay:mayE l=true) (hrow:∀ e ∈ l,e.f0.length<=4398046511104) :
  IterOn Fence.wide n Tryz.prog 84 #[.pointer (some ⟨w.heap.size,0,none⟩)] (runsP l) PhiRun (fun b=>b<wE.heap.size\/b=w.heap.size) (w.alloc (.cells #[.slice A0 l.length c0] 22 (0,0))) :=
 groups1_iter n hn A0 c0 l w.heap.size _ wE _ hr0 (below_alloc hE _) ((blk_cell (blk_new w _) 0).trans rfl) (fun b hb=>.inl hb) (.inr rfl) (fun b hb=>by
  rw[World.size_alloc]
  rcases hb with hb | hb
  ·have:=hE.size;omega
  ·omega) hmay hrow
theorem runAt_len:∀ (es:List EdP) (r:List Vl) (js:List Jp),(runAt r js es).length<=es.length+1
 | [],r,js=>by simp[runAt]
 | e :: es,r,js=>by
  rw[runAt]
  split
  ·have:=runAt_len es r (js ++ [jmpE e]);simp;omega
  ·have:=runAt_len es e.f0 [jmpE e];simp;omega
theorem runs_len (l:List EdP):(runsP l).length<=l.length:=by
 cases l with
 | nil=>exact Nat.le_refl _
 | cons e es=>rw[runsP];exact runAt_len es e.f0 _
theorem mayE_len {l:List EdP} (h:mayE l=true):l.length<=4096:=by
 unfold mayE eachP at h;rw[Bool.and_eq_true] at h;exact ODT h.1
theorem buildP_len (r:List Vl) (f:List Jp):(buildP r f).length<=1024:=by
 unfold buildP
 split
 ·rename_i h
  rw[Bool.and_eq_true] at h;have:=mayJ_len h.2;simp[putP];omega
 ·exact Nat.zero_le _
end Go.Proofs.YtmkgecapkeojaaaGreat.Eg
end
section
namespace Go.Proofs.YtmkgecapkeojaaaGreat.Eg
open PDa
open RowKit YtmkgecapkeojaaaGreatW.PrintWords Stp Rw Cmp
open Go.Proofs.YtmkgecapkeojaaaGreat.EvP (U)
def okE (e:EdP):Bool:=rowMay e.f0 && mayJ [jmpE e]
def stepB (p e:EdP):Bool:=decide (cmpR p.f0 e.f0<0) || (decide (cmpR p.f0 e.f0=0) && decide (p.f1<e.f1))
def chainB:EdP->List EdP->Bool
 | _,[]=>true
 | p,e :: es=>(okE e && stepB p e) && chainB e es
def chain0:List EdP->Bool
 | []=>true
 | e :: es=>okE e && chainB e es
def okj (y:Jp):Bool:=decide (y.f0<1125899906842624) && decide (y.f1 ≠ 0) && fairB y.f1
theorem mayL_snoc (x y:Jp):∀ (js:List Jp) (a:Int),mayL a (js ++ [x] ++ [y])=(mayL a (js ++ [x]) && (decide (x.f0<y.f0) && okj y))
 | [],a=>by
  simp only[List.nil_append,List.cons_append,mayL,okj,Bool.and_true];simp only[Bool.and_assoc]
 | z :: js,a=>by
  have:=mayL_snoc x y js z.f0;simp only[List.cons_append,mayL];rw[List.append_assoc] at this;simp only[List.append_assoc,List.cons_append,List.nil_append] at this ⊢;rw[this];simp only[Bool.and_assoc]
theorem mayL_gt (x:Jp):∀ (js:List Jp) (a:Int),mayL a (js ++ [x])=true->a<x.f0
 | [],a,h=>by
  simp only[List.nil_append,mayL,Bool.and_eq_true,decide_eq_true_eq] at h;exact h.1.1.1.1
 | z :: js,a,h=>by
  simp only[List.cons_append,mayL,Bool.and_eq_true,decide_eq_true_eq] at h;have:=mayL_gt x js z.f0 h.2;omega
theorem mayJ_one (x:Jp):mayJ [x]=(decide (-2<x.f0) && okj x):=by
 unfold mayJ okj mayL mayL;simp[Bool.and_assoc]
theorem cmpR_self (r:List Vl):cmpR r r=0:=by
 unfold cmpR
 split
 ·rename_i h
  rw[cmpL_rC r r (rowMay_all h) (rowMay_all h)];exact rC_is.self r
 ·rfl
theorem each_chain:∀ (es:List EdP) (last:Option (List Vl)) (js:List Jp) (p:EdP),js.length+1+es.length<=1024 ->
  eachR mayJ last (runAt p.f0 (js ++ [jmpE p]) es)=((rowMay p.f0 && lastB last p.f0 && mayJ (js ++ [jmpE p])) && chainB p es)
 | [],last,js,p,h=>by
  simp[runAt,eachR,chainB]
 | e :: es,last,js,p,h=>by
  simp only[List.length_cons] at h;rw[runAt]
  by_cases he:e.f0=p.f0
  ·rw[if_pos ((eqR_iff _ _).2 he), <- he]
   have ih:=each_chain es last (js ++ [jmpE p]) e (by simp;omega);rw[ih,chainB];have hs:stepB p e=decide (p.f1<e.f1):=by unfold stepB;rw[<- he,cmpR_self];simp
   have hm1:mayJ (js ++ [jmpE p] ++ [jmpE e])=(mayL (-2) (js ++ [jmpE p]) && (decide (p.f1<e.f1) && okj (jmpE e))):=by
    unfold mayJ;rw[mayL_snoc,DET (by simp;omega),Bool.true_and]
    rfl
   have hm2:mayJ (js ++ [jmpE p])=mayL (-2) (js ++ [jmpE p]):=by
    unfold mayJ;rw[DET (by simp;omega),Bool.true_and]
   have hg:mayL (-2) (js ++ [jmpE p])=true->decide (p.f1<e.f1)=true->decide ((-2:Int)<(jmpE e).f0)=true:=fun h1 h2=>by
    have h3:=mayL_gt _ _ _ h1;have h4:=ODT h2;refine decide_eq_true ?_
    show -2<e.f1
    have:(jmpE p).f0=p.f1:=rfl;omega
   unfold okE;rw[hs,hm1,hm2,mayJ_one];generalize mayL (-2) (js ++ [jmpE p])=M at *;generalize decide (p.f1<e.f1)=S at *;generalize decide ((-2:Int)<(jmpE e).f0)=G at *;generalize okj (jmpE e)=O;generalize chainB e es=C;generalize rowMay e.f0=A;generalize lastB last e.f0=B;cases A <;> cases B <;> cases M <;> cases S <;> cases G <;> cases O <;> cases C <;> simp_all
  ·rw[if_neg (fun h=>he ((eqR_iff _ _).1 h)),eachR,chainB]
   have ih:=each_chain es (some p.f0) [] e (by simp;omega);rw[List.nil_append] at ih;rw[ih];unfold okE lastB stepB;simp only;have hz:rowMay p.f0=true->rowMay e.f0=true->decide (cmpR p.f0 e.f0=0)=false:=fun h1 h2=>by
    rw[cmpR_rC h1 h2];exact DEF (fun h=>he ((rC_is.zero _ _).1 h).symm)
   generalize decide (cmpR p.f0 e.f0=0)=Z at *;generalize decide (cmpR p.f0 e.f0<0)=L;generalize decide (p.f1<e.f1)=S;generalize mayJ [jmpE e]=O;generalize chainB e es=C;generalize rowMay e.f0=A at *;generalize rowMay p.f0=A' at *;generalize mayJ (js ++ [jmpE p])=M;generalize (match last with | none=>true | some y=>decide (cmpR y p.f0<0))=B;cases A <;> cases A' <;> cases B <;> cases M <;> cases S <;> cases L <;> cases O <;> cases C <;> cases Z <;> simp_all
theorem mayE_chain (l:List EdP) (h:l.length<=1024):mayE l=chain0 l:=by
 unfold mayE eachP;rw[DET (by omega),Bool.true_and];cases l with
 | nil=>rfl
 | cons e es =>
  have:=each_chain es none [] e (by simp at h ⊢;omega);rw[List.nil_append] at this;rw[runsP,this,chain0];unfold okE lastB;simp
theorem rdE (l:List EdP) (i:Nat) (h:i<l.length):rd_T41 l (i:Int)=l[i]:=by
 unfold rd_T41;rw[Int.toNat_natCast,List.getD_eq_getElem?_getD,List.getElem?_eq_getElem h]
 rfl
theorem rdR (l:List (List Vl)) (i:Nat) (h:i<l.length):rd_L3 l (i:Int)=l[i]:=by
 unfold rd_L3;rw[Int.toNat_natCast,List.getD_eq_getElem?_getD,List.getElem?_eq_getElem h]
 rfl
theorem wrapN (i:Nat) (h:i<=4611686018427387904):wrap64 ((i:Int)+1)=((i+1:Nat):Int):=by unfold wrap64;omega
theorem may09_one (j:Jp):U (fun k=>r09_May.f k [j]) (mayJ [j]):=by
 unfold r09_May.f;refine EvP.U.neg (by simp) (EvP.U.succ ?_);simp only[r09_May.l0];have rj:rd_T85 [j] 0=j:=rfl;rw[rj];refine EvP.U.pos (by simp) (EvP.U.pos (by omega) ?_);have e:mayJ [j]=(decide (-2<j.f0) && (decide (j.f0<1125899906842624) && decide (j.f1 ≠ 0) && fairB j.f1)):=mayJ_one j;have tt:U (fun k=>r09_May.j1 k [j] 0 true) false:=by
  refine EvP.U.succ ?_;simp only[r09_May.j1];exact EvP.U.pos (by first | rfl | trivial) (EvP.U.some _)
 by_cases h1:j.f0 < -1
 ·rw[e,DEF (show ¬ -2<j.f0 by omega),Bool.false_and]
  exact EvP.U.pos h1 tt
 ·refine EvP.U.neg h1 ?_
  rw[e,DET (show -2<j.f0 by omega),Bool.true_and]
  by_cases h2:j.f0 >= 1125899906842624
  ·rw[DEF (show ¬ j.f0<1125899906842624 by omega),Bool.false_and,Bool.false_and]
   exact EvP.U.pos h2 tt
  ·refine EvP.U.neg h2 ?_
   rw[DET (show j.f0<1125899906842624 by omega),Bool.true_and]
   by_cases h3:j.f1=0
   ·rw[DEF (show ¬ j.f1 ≠ 0 by omega),Bool.false_and]
    exact EvP.U.pos h3 tt
   ·refine EvP.U.neg h3 ?_
    rw[DET (show j.f1 ≠ 0 from h3),Bool.true_and]
    by_cases h4:j.f1 > 1048576
    ·rw[show fairB j.f1=false by unfold fairB;simp;omega]
     exact EvP.U.pos h4 tt
    ·refine EvP.U.neg h4 (EvP.U.succ ?_)
     simp only[r09_May.j1]
     by_cases h5:j.f1 < -1048576
     ·rw[show fairB j.f1=false by unfold fairB;simp;omega]
      exact EvP.U.pos (DET h5) (EvP.U.some _)
     ·rw[show fairB j.f1=true by unfold fairB;simp;omega]
      refine EvP.U.neg (by rw[DEF h5];decide) (EvP.U.neg (by omega) (EvP.U.succ ?_));simp only[r09_May.l0];exact EvP.U.neg (by simp[wrap64]) (EvP.U.some _)
def jumpsOf (l:List EdP) (r:List Vl):List Jp:=(l.filter fun e=>eqR e.f0 r).map jmpE
theorem jumpsOf_len (l:List EdP) (r:List Vl):(jumpsOf l r).length<=l.length:=by
 unfold jumpsOf;rw[List.length_map];exact List.length_filter_le _ _
theorem jumps_l0 (l:List EdP) (r:List Vl) (hr:∀ e ∈ l,e.f0.length<=4398046511104) (hl:l.length<=1000000):∀ (m i:Nat) (acc:List Jp),l.length - i=m->i<=l.length->acc.length<=i ->
  U (fun k=>r10_Jumps.l0 k l r acc (i:Int)) (acc ++ jumpsOf (l.drop i) r)
 | m,i,acc,hm,hi,ha=>by
  refine EvP.U.succ ?_;simp only[r10_Jumps.l0]
  by_cases c:i<l.length
  ·refine EvP.U.pos (by omega) (EvP.U.pos (by omega) ?_)
   rw[rdE l i c,wrapN i (by omega)];refine EvP.U.bind (same06 l[i].f0 r (hr _ (List.getElem_mem c))) ?_;have hd:l.drop i=l[i] :: l.drop (i+1):=List.drop_eq_getElem_cons c;cases he:eqR l[i].f0 r with
   | true =>
    refine EvP.U.pos (by first | rfl | trivial) (EvP.U.pos (by omega) ?_);have e:acc ++ jumpsOf (l.drop i) r=(acc ++ [jmpE l[i]]) ++ jumpsOf (l.drop (i+1)) r:=by
     rw[hd];unfold jumpsOf;rw[List.filter_cons,if_pos he];simp
    rw[e]
    match m,hm with
    | 0,hm=>omega
    | m+1,hm=>exact jumps_l0 l r hr hl m (i+1) _ (by omega) (by omega) (by simp;omega)
   | false =>
    refine EvP.U.neg (by decide) ?_;have e:acc ++ jumpsOf (l.drop i) r=acc ++ jumpsOf (l.drop (i+1)) r:=by
     rw[hd];unfold jumpsOf;rw[List.filter_cons,if_neg (by rw[he];decide)]
    rw[e]
    match m,hm with
    | 0,hm=>omega
    | m+1,hm=>exact jumps_l0 l r hr hl m (i+1) _ (by omega) (by omega) (by omega)
  ·refine EvP.U.neg (by omega) ?_
   rw[List.drop_eq_nil_of_le (by omega)];exact EvP.U.congr_r (EvP.U.some _) (by simp[jumpsOf])
theorem jumps10 (l:List EdP) (r:List Vl) (hr:∀ e ∈ l,e.f0.length<=4398046511104) (hl:l.length<=1000000):U (fun k=>r10_Jumps.f k l r) (jumpsOf l r):=by
 have:=jumps_l0 l r hr hl _ 0 [] rfl (Nat.zero_le _) (Nat.zero_le _);unfold r10_Jumps.f
 simpa using this
end Go.Proofs.YtmkgecapkeojaaaGreat.Eg
end
section
namespace Go.Proofs.YtmkgecapkeojaaaGreat.Eg
open PDa
open RowKit YtmkgecapkeojaaaGreatW.PrintWords YtmkgecapkeojaaaGreatW.PrintLast YtmkgecapkeojaaaGreatW.PrintMore
open SortM Run Stp Rw
attribute [local go_sem] Oper.semAt_some
end Go.Proofs.YtmkgecapkeojaaaGreat.Eg
end
