/- Texts of this claim, put together by a program: PDax14, PDax15, PDax16, PDax17, PDax18, PDax19. -/
import Derived.Test.YtmkgecapkeojaaaGreatJ4
set_option linter.unusedVariables false
set_option linter.unusedSimpArgs false
set_option maxHeartbeats 8000000
set_option maxRecDepth 100000
section
namespace Go.Proofs.YtmkgecapkeojaaaGreat.PDa
open RowKit YtmkgecapkeojaaaGreatW.PrintWords YtmkgecapkeojaaaGreatW.PrintLast YtmkgecapkeojaaaGreatW.PrintMore
attribute [local go_sem] max2_int min2_int max_two min_two max_three min_three max_four min_four
def r17_Takes.j0:Nat->Int->Bool->Option (Int)
 | 0,_,_=>none
 | k+1,x0,x8=>if x8=true then (some (-1)) else (if x0<=3 then (some 0) else (if x0<=6 then (some 1) else (some 2)))
def r17_Takes.f (k:Nat) (a0:Int):Option (Int):=if a0<1 then (r17_Takes.j0 k a0 true) else (r17_Takes.j0 k a0 (decide (a0 > 20)))
theorem r17_Takes.calls (k:Nat) (a0:Int) (r:Int) (w:World) (h:r17_Takes.f k a0=some r) :
  Calls Tryz.prog 130 #[.int .i64 a0] w fun e w'=>e = .returned (.int .i64 r)/\Drawn0 w w':=by
 have H:(if a0<1 then (r17_Takes.j0 k a0 true) else (r17_Takes.j0 k a0 (decide (a0 > 20))))=some r:=h;clear h;have HC2:=Aside0.mk H;clear H;go_enter Tryz.func130,Tryz.ntmps130
 go_upto_region 1 with (fail)
 go_cut [8] (fun v8 wc=>∃ (kq:Nat) (x8_1:Bool),v8 = .bool x8_1/\Aside0 (r17_Takes.j0 kq a0 x8_1=some r)/\Aside0 (kq<=k)/\Drawn0 w wc)
 case first =>
  have H:=HC2.out;clear HC2
  by_cases c3:a0<1
  ·rw[if_pos c3] at H
   have c3b0:decide (a0<1)=true:=DET c3;clear c3
   (first | rw[c3b0] | (simp only[i64_w,i32_w];rw[c3b0]) | skip)
   have H':=Aside0.mk H;clear H;go_wp2
   go_meet
   case rel=>exact⟨_,(true),zq3,H',⟨zq32⟩,zq5⟩
  ·rw[if_neg c3] at H
   have c3b0:decide (a0<1)=false:=DEF c3;clear c3
   (first | rw[c3b0] | (simp only[i64_w,i32_w];rw[c3b0]) | skip)
   have H':=Aside0.mk H;clear H;go_wp2
   go_meet
   case rel=>exact⟨_,(decide (a0 > 20)),zq3,H',⟨zq32⟩,zq5⟩
 case rest =>
  clear HC2
  try clear c1
  try clear p2
  try clear c3
  try clear c3b0
  obtain⟨kq,x8_1,rfl,HA,HJ1,⟨mc1,rfl⟩⟩:=hcut;cases kq with
  | zero=>exact absurd HA.out (by simp[r17_Takes.j0])
  | succ kj1 =>
   have H:=HA.out;clear HA;simp only[r17_Takes.j0] at H
   by_cases c4:x8_1=true
   ·subst c4
    have H1:(some (-1))=some r:=by rw[if_pos rfl] at H;exact H
    clear H;have H:=H1;clear H1;obtain rfl:=OSI H;go_wp2;go_ret;exact⟨zq3,zq5⟩
   ·replace c4:=Bool.eq_false_iff.mpr c4
    subst c4;have H1:(if a0<=3 then (some 0) else (if a0<=6 then (some 1) else (some 2)))=some r:=by rw[if_neg (show ¬ (false=true) by decide)] at H;exact H
    clear H;have H:=H1;clear H1
    by_cases c5:a0<=3
    ·rw[if_pos c5] at H
     have c5b0:decide (a0<=3)=true:=DET c5;clear c5;obtain rfl:=OSI H;go_wp2;go_ret;exact⟨zq3,zq5⟩
    ·rw[if_neg c5] at H
     have c5b0:decide (a0<=3)=false:=DEF c5;clear c5
     by_cases c6:a0<=6
     ·rw[if_pos c6] at H
      have c6b0:decide (a0<=6)=true:=DET c6;clear c6;obtain rfl:=OSI H;go_wp2;go_ret;exact⟨zq3,zq5⟩
     ·rw[if_neg c6] at H
      have c6b0:decide (a0<=6)=false:=DEF c6;clear c6;obtain rfl:=OSI H;go_wp2;go_ret;exact⟨zq3,zq5⟩
def r17_Word.j0:Nat->Bool->Int->Int->ByteArray->Option (Bool)
 | 0,_,_,_,_=>none
 | k+1,x20,x273000,x273001,x273002=>if x20=true then (some false) else (if x273000=1 then (some true) else (if x273000=3 then (if x273001 >= 0 then (some (decide (x273001<8))) else (some false)) else (some (x273001 == 0))))
def r17_Word.f (k:Nat) (a0_0:Int) (a0_1:Int) (a0_2:ByteArray):Option (Bool):=(r17_Takes.f k a0_0).bind fun t273=>(if t273<0 then (some false) else (if a0_0=2 then (r17_Word.j0 k (decide ((a0_2.size:Int) > 64)) a0_0 a0_1 a0_2) else (if a0_2.toList=([]:List UInt8) then (r17_Word.j0 k (decide ((a0_2.size:Int) > 64)) a0_0 a0_1 a0_2) else (r17_Word.j0 k true a0_0 a0_1 a0_2))))
theorem r17_Word.calls (k:Nat) (a0_0:Int) (a0_1:Int) (a0_2:ByteArray) (r:Bool) (w:World) (h:r17_Word.f k a0_0 a0_1 a0_2=some r) :
  Calls Tryz.prog 129 #[.agg #[.int .i64 a0_0,.int .i64 a0_1,.string a0_2]] w fun e w'=>e = .returned (.bool r)/\Below w.heap.size w w':=by
 have hu68:=Tryz.underlying68;have HB:=Aside0.mk (Below.refl w.heap.size w);have H:((r17_Takes.f k a0_0).bind fun t273=>(if t273<0 then (some false) else (if a0_0=2 then (r17_Word.j0 k (decide ((a0_2.size:Int) > 64)) a0_0 a0_1 a0_2) else (if a0_2.toList=([]:List UInt8) then (r17_Word.j0 k (decide ((a0_2.size:Int) > 64)) a0_0 a0_1 a0_2) else (r17_Word.j0 k true a0_0 a0_1 a0_2)))))=some r:=h;clear h;replace H:=Option.bind_eq_some_iff.mp H;obtain⟨t273,A20,H⟩:=H;replace H:(if t273<0 then (some false) else (if a0_0=2 then (r17_Word.j0 k (decide ((a0_2.size:Int) > 64)) a0_0 a0_1 a0_2) else (if a0_2.toList=([]:List UInt8) then (r17_Word.j0 k (decide ((a0_2.size:Int) > 64)) a0_0 a0_1 a0_2) else (r17_Word.j0 k true a0_0 a0_1 a0_2))))=some r:=H;have A2:=Aside0.mk A20;clear A20
 by_cases c3:t273<0
 ·rw[if_pos c3] at H
  have c3b0:decide (t273<0)=true:=DET c3;clear c3;obtain rfl:=OSI H;go_enter Tryz.func129,Tryz.ntmps129
  go_wp2_with (first | ((with_reducible refine gate_dst (N:=1) rfl ?_);(try (refine gate_guard (by rfl) ?_;dsimp only));refine bZ 1 #[.int .i64 a0_0,.int .i64 a0_1,.string a0_2] 68 ?_;intro gb272 hg w4 hbox hb;have BK272:=Aside0.mk (hbox);have GW272:=GB HB hg;have GE272:=GW272;replace HB:=BB HB hb;clear hb hbox hg;obtain⟨hcz5_0,hcz5_1,hcz5_2,hfz5_0,hfz5_1,hfz5_2⟩:=bL3 BK272) | (refine gZ 5 Tryz.func130 #[.int .i64 a0_0] ?_;(with_reducible refine (r17_Takes.calls k a0_0 t273 _ A2.out).mono ?_);rintro e w' ⟨rfl,⟨nd,rfl⟩⟩;refine⟨_,rfl,?_⟩))
  go_ret;exact⟨zq2,zq22⟩
 ·rw[if_neg c3] at H
  have c3b0:decide (t273<0)=false:=DEF c3;clear c3;have HC6:=Aside0.mk H;clear H;go_enter Tryz.func129,Tryz.ntmps129
  go_upto_region 3 with (first | ((with_reducible refine gate_dst (N:=1) rfl ?_);(try (refine gate_guard (by rfl) ?_;dsimp only));refine bZ 1 #[.int .i64 a0_0,.int .i64 a0_1,.string a0_2] 68 ?_;intro gb272 hg w7 hbox hb;have BK272:=Aside0.mk (hbox);have GW272:=GB HB hg;have GE272:=GW272;replace HB:=BB HB hb;clear hb hbox hg;obtain⟨hcz8_0,hcz8_1,hcz8_2,hfz8_0,hfz8_1,hfz8_2⟩:=bL3 BK272) | (refine gZ 5 Tryz.func130 #[.int .i64 a0_0] ?_;(with_reducible refine (r17_Takes.calls k a0_0 t273 _ A2.out).mono ?_);rintro e w' ⟨rfl,⟨nd,rfl⟩⟩;refine⟨_,rfl,?_⟩))
  (try simp only[Act.put,List.setIfInBounds_toArray,List.set_cons_zero,List.set_cons_succ])
  go_cut [20] (fun v20 wc=>∃ (kq:Nat) (x20_5:Bool),v20 = .bool x20_5/\Aside0 (r17_Word.j0 kq x20_5 a0_0 a0_1 a0_2=some r)/\Aside0 (kq<=k)/\Aside0 (wc.heap[gb272]? = some (.cells #[.int .i64 a0_0,.int .i64 a0_1,.string a0_2] 68 (0,0)))/\Aside0 (Below w.heap.size w wc))
  case first =>
   have H:=HC6.out;clear HC6
   by_cases c9:a0_0=2
   ·rw[if_pos c9] at H
    have c9b0:(a0_0 == 2)=true:=beq_iff_eq.mpr c9;have c9b1:(a0_0 != 2)=false:=bne_eq_false_iff_eq.mpr c9;clear c9
    (first | rw[c9b0] | (simp only[i64_w,i32_w];rw[c9b0]) | skip)
    have H':=Aside0.mk H;clear H;obtain⟨hcz10_0,hcz10_1,hcz10_2,hfz10_0,hfz10_1,hfz10_2⟩:=bL3 BK272;go_wp2
    go_meet
    case rel=>exact⟨_,(decide ((a0_2.size:Int) > 64)),zq3,H',⟨zq32⟩,⟨zq78⟩,⟨zq22⟩⟩
   ·rw[if_neg c9] at H
    have c9b0:(a0_0 == 2)=false:=BNM c9;have c9b1:(a0_0 != 2)=true:=bne_iff_ne.mpr c9
    (first | rw[c9b0] | (simp only[i64_w,i32_w];rw[c9b0]) | skip)
    by_cases c11:a0_2.toList=([]:List UInt8)
    ·rw[if_pos c11] at H
     have c11b0:(a0_2.toList == ([]:List UInt8))=true:=beq_iff_eq.mpr c11;have c11b1:(a0_2.toList != ([]:List UInt8))=false:=bne_eq_false_iff_eq.mpr c11;clear c11;have H':=Aside0.mk H;clear H;obtain⟨hcz12_0,hcz12_1,hcz12_2,hfz12_0,hfz12_1,hfz12_2⟩:=bL3 BK272;go_wp2
     go_meet
     case rel=>exact⟨_,(decide ((a0_2.size:Int) > 64)),zq3,H',⟨zq32⟩,⟨zq78⟩,⟨zq22⟩⟩
    ·rw[if_neg c11] at H
     have c11b0:(a0_2.toList == ([]:List UInt8))=false:=BNM c11;have c11b1:(a0_2.toList != ([]:List UInt8))=true:=bne_iff_ne.mpr c11;have H':=Aside0.mk H;clear H;obtain⟨hcz13_0,hcz13_1,hcz13_2,hfz13_0,hfz13_1,hfz13_2⟩:=bL3 BK272;go_wp2
     go_meet
     case rel=>exact⟨_,(true),zq3,H',⟨zq32⟩,⟨zq78⟩,⟨zq22⟩⟩
  case rest =>
   clear HC6
   try clear c1
   try clear p2
   try clear c3
   try clear c3b0
   try clear c9
   try clear c9b0
   try clear c9b1
   try clear c11
   try clear c11b0
   try clear c11b1
   try clear c12
   try clear c13
   try clear hcz10_0
   try clear hcz10_1
   try clear hcz10_2
   try clear hcz12_0
   try clear hcz12_1
   try clear hcz12_2
   try clear hcz13_0
   try clear hcz13_1
   try clear hcz13_2
   try clear hcz5_0
   try clear hcz5_1
   try clear hcz5_2
   try clear hcz8_0
   try clear hcz8_1
   try clear hcz8_2
   try clear hfz10_0
   try clear hfz10_1
   try clear hfz10_2
   try clear hfz12_0
   try clear hfz12_1
   try clear hfz12_2
   try clear hfz13_0
   try clear hfz13_1
   try clear hfz13_2
   try clear hfz5_0
   try clear hfz5_1
   try clear hfz5_2
   try clear hfz8_0
   try clear hfz8_1
   try clear hfz8_2
   obtain⟨kq,x20_5,rfl,HA,HJ5,BK272,HB⟩:=hcut;cases kq with
   | zero=>exact absurd HA.out (by simp[r17_Word.j0])
   | succ kj5 =>
    have H:=HA.out;clear HA;simp only[r17_Word.j0] at H
    by_cases c14:x20_5=true
    ·subst c14
     have H1:(some false)=some r:=by rw[if_pos rfl] at H;exact H
     clear H;have H:=H1;clear H1;obtain rfl:=OSI H;go_wp2;go_ret;exact⟨zq2,zq22⟩
    ·replace c14:=Bool.eq_false_iff.mpr c14
     subst c14;have H1:(if a0_0=1 then (some true) else (if a0_0=3 then (if a0_1 >= 0 then (some (decide (a0_1<8))) else (some false)) else (some (a0_1 == 0))))=some r:=by rw[if_neg (show ¬ (false=true) by decide)] at H;exact H
     clear H;have H:=H1;clear H1
     by_cases c15:a0_0=1
     ·rw[if_pos c15] at H
      have c15b0:(a0_0 == 1)=true:=beq_iff_eq.mpr c15;have c15b1:(a0_0 != 1)=false:=bne_eq_false_iff_eq.mpr c15;clear c15;obtain rfl:=OSI H;obtain⟨hcz16_0,hcz16_1,hcz16_2,hfz16_0,hfz16_1,hfz16_2⟩:=bL3 BK272;go_wp2;go_ret;exact⟨zq2,zq22⟩
     ·rw[if_neg c15] at H
      have c15b0:(a0_0 == 1)=false:=BNM c15;have c15b1:(a0_0 != 1)=true:=bne_iff_ne.mpr c15
      by_cases c17:a0_0=3
      ·rw[if_pos c17] at H
       have c17b0:(a0_0 == 3)=true:=beq_iff_eq.mpr c17;have c17b1:(a0_0 != 3)=false:=bne_eq_false_iff_eq.mpr c17;clear c17
       by_cases c18:a0_1 >= 0
       ·rw[if_pos c18] at H
        have c18b0:decide (0<=a0_1)=true:=DET c18;clear c18;obtain rfl:=OSI H;obtain⟨hcz19_0,hcz19_1,hcz19_2,hfz19_0,hfz19_1,hfz19_2⟩:=bL3 BK272;go_wp2;go_ret;exact⟨zq2,zq22⟩
       ·rw[if_neg c18] at H
        have c18b0:decide (0<=a0_1)=false:=DEF c18;clear c18;obtain rfl:=OSI H;obtain⟨hcz20_0,hcz20_1,hcz20_2,hfz20_0,hfz20_1,hfz20_2⟩:=bL3 BK272;go_wp2;go_ret;exact⟨zq2,zq22⟩
      ·rw[if_neg c17] at H
       have c17b0:(a0_0 == 3)=false:=BNM c17;have c17b1:(a0_0 != 3)=true:=bne_iff_ne.mpr c17;obtain rfl:=OSI H;obtain⟨hcz21_0,hcz21_1,hcz21_2,hfz21_0,hfz21_1,hfz21_2⟩:=bL3 BK272;go_wp2;go_ret;exact⟨zq2,zq22⟩
mutual
def r17_Tail.j0:Nat->List (S68)->Bool->Option (Int)
 | 0,_,_=>none
 | k+1,x0,x18=>if x18=true then (some 0) else (r17_Tail.l0 k x0 1 0)
def r17_Tail.l0:Nat->List (S68)->Int->Int->Option (Int)
 | 0,_,_,_=>none
 | k+1,x0,x3,x4=>if 0<=(wrap64 ((x0.length:Int) - 1)) then (if (wrap64 ((x0.length:Int) - 1))<(x0.length:Int) then ((r17_Takes.f k ((rd_T68 x0 (wrap64 ((x0.length:Int) - 1))).f0)).bind fun t277=>(if x4<t277 then (if 0<=(wrap64 ((x0.length:Int) - x3)) then (if (wrap64 ((x0.length:Int) - x3))<=(x0.length:Int) then ((r17_Tail.f k (x0.take ((wrap64 ((x0.length:Int) - x3)):Int).toNat)).bind fun t282=>(if t282=0 then (some 0) else (r17_Tail.l0 k x0 (wrap64 (x3+t282)) (wrap64 (x4+1))))) else (none)) else (none)) else (some x3))) else (none)) else (none)
def r17_Tail.f:Nat->List (S68)->Option (Int)
 | 0,_=>none
 | k+1,l0=>if (l0.length:Int)=0 then (r17_Tail.j0 k l0 true) else (if 0<=(wrap64 ((l0.length:Int) - 1)) then (if (wrap64 ((l0.length:Int) - 1))<(l0.length:Int) then ((r17_Word.f k ((rd_T68 l0 (wrap64 ((l0.length:Int) - 1))).f0) ((rd_T68 l0 (wrap64 ((l0.length:Int) - 1))).f1) ((rd_T68 l0 (wrap64 ((l0.length:Int) - 1))).f2)).bind fun t275=>(r17_Tail.j0 k l0 (!t275))) else (none)) else (none))
end
theorem r17_Tail.calls (k:Nat):∀ (A0:Option Addr) (c0:Nat) (l0:List (S68)) (r:Int) (w:World) (hr0:Kd.C k68 w A0 l0.length l0) (hc0:l0.length<=c0) (h:r17_Tail.f k l0=some r),
  Calls Tryz.prog 88 #[.slice A0 l0.length c0] w fun e w'=>e = .returned (.int .i64 r)/\Below w.heap.size w w':=by
 induction k using Nat.strongRecOn with
 | _ k ih =>
 intro A0 c0 l0 r w hr0 hc0 h;cases k with
 | zero=>exact absurd h (by simp[r17_Tail.f])
 | succ k =>
 simp only[r17_Tail.f] at h;have hu68:=Tryz.underlying68;have HR0:=Aside0.mk hr0;have HC0:=Aside0.mk hc0;clear hr0 hc0;have HB:=Aside0.mk (Below.refl w.heap.size w);have H:(if (l0.length:Int)=0 then (r17_Tail.j0 k l0 true) else (if 0<=(wrap64 ((l0.length:Int) - 1)) then (if (wrap64 ((l0.length:Int) - 1))<(l0.length:Int) then ((r17_Word.f k ((rd_T68 l0 (wrap64 ((l0.length:Int) - 1))).f0) ((rd_T68 l0 (wrap64 ((l0.length:Int) - 1))).f1) ((rd_T68 l0 (wrap64 ((l0.length:Int) - 1))).f2)).bind fun t275=>(r17_Tail.j0 k l0 (!t275))) else (none)) else (none)))=some r:=h;clear h;have HC2:=Aside0.mk H;clear H;go_enter Tryz.func88,Tryz.ntmps88
 go_upto_region 1 with (fail)
 go_cut [18] (fun v18 wc=>∃ (kq:Nat) (x18_1:Bool),v18 = .bool x18_1/\Aside0 (r17_Tail.j0 kq l0 x18_1=some r)/\Aside0 (kq<=k)/\Aside0 (Below w.heap.size w wc))
 case first =>
  have H:=HC2.out;clear HC2
  by_cases c3:(l0.length:Int)=0
  ·rw[if_pos c3] at H
   have c3b0:((l0.length:Int) == 0)=true:=beq_iff_eq.mpr c3;have c3b1:((l0.length:Int) != 0)=false:=bne_eq_false_iff_eq.mpr c3;clear c3
   (first | rw[c3b0] | (simp only[i64_w,i32_w];rw[c3b0]) | skip)
   have H':=Aside0.mk H;clear H;go_wp2
   go_meet
   case rel=>exact⟨_,(true),zq3,H',⟨zq32⟩,⟨zq0⟩⟩
  ·rw[if_neg c3] at H
   have c3b0:((l0.length:Int) == 0)=false:=BNM c3;have c3b1:((l0.length:Int) != 0)=true:=bne_iff_ne.mpr c3;have c3b2:¬ (l0=[]):=fun h_=>c3 (by rw[h_];rfl)
   (first | rw[c3b0] | (simp only[i64_w,i32_w];rw[c3b0]) | skip)
   obtain⟨ji4,hji4⟩:∃ j_:Int,(wrap64 ((l0.length:Int) - 1))=j_:=⟨_,rfl⟩
   replace H:(if 0<=(ji4) then (if (ji4)<(l0.length:Int) then ((r17_Word.f k ((rd_T68 l0 (ji4)).f0) ((rd_T68 l0 (ji4)).f1) ((rd_T68 l0 (ji4)).f2)).bind fun t275=>(r17_Tail.j0 k l0 (!t275))) else (none)) else (none))=some r:=by first | (rw[hji4] at H;exact H) | (simp only[hji4] at H ⊢;exact H)
   have hji4w:(IntKind.i64.wrap ((l0.length:Int) - 1))=ji4:=(i64_w _).trans hji4
   by_cases c5:0<=(ji4)
   ·rw[if_pos c5] at H
    have c5b0:decide (0<=(ji4))=true:=DET c5;clear c5
    by_cases c6:(ji4)<(l0.length:Int)
    ·rw[if_pos c6] at H
     have c6b0:decide ((ji4)<(l0.length:Int))=true:=DET c6;clear c6;replace H:=Option.bind_eq_some_iff.mp H;obtain⟨t275,A70,H⟩:=H;replace H:(r17_Tail.j0 k l0 (!t275))=some r:=H;have A7:=Aside0.mk A70;clear A70;have H':=Aside0.mk H;clear H;have p274:0<=((ji4):Int):=ODT zq1;have q274:(ji4)<(l0.length:Int):=ODT zq1;obtain⟨ad274,e274,hx274_0,hx274_1,hx274_2⟩:=at_T68 HR0.out (ji4) p274 q274;cases e274;replace hx274_0:=hZ hx274_0 HB.out;replace hx274_1:=hZ hx274_1 HB.out;replace hx274_2:=hZ hx274_2 HB.out;replace p274:=eq_true p274;replace q274:=eq_true q274
     go_wp2_with (first | (go_at_call 129;(with_reducible refine (r17_Word.calls k ((rd_T68 l0 (ji4)).f0) ((rd_T68 l0 (ji4)).f1) ((rd_T68 l0 (ji4)).f2) t275 _ A7.out).mono ?_);rintro e w8 ⟨rfl,hb⟩;replace HB:=BB HB hb;(try clear hb)))
     go_meet
     case rel=>exact⟨_,(!t275),zq3,H',⟨zq32⟩,⟨zq0⟩⟩
    ·rw[if_neg c6] at H
     exact absurd H zq30
   ·rw[if_neg c5] at H
    exact absurd H zq30
 case rest =>
  clear HC2
  try clear p2
  try clear q2
  try clear hx2
  try clear c3
  try clear c3b0
  try clear c3b1
  try clear c3b2
  try clear c5
  try clear c5b0
  try clear c6
  try clear c6b0
  try clear p6
  try clear c8
  try clear hx274_0
  try clear hx274_1
  try clear hx274_2
  try clear p274
  try clear q274
  obtain⟨kq,x18_1,rfl,HA,HJ1,HB⟩:=hcut;cases kq with
  | zero=>exact absurd HA.out (by simp[r17_Tail.j0])
  | succ kj1 =>
   have H:=HA.out;clear HA;simp only[r17_Tail.j0] at H
   by_cases c9:x18_1=true
   ·subst c9
    have H1:(some 0)=some r:=by rw[if_pos rfl] at H;exact H
    clear H;have H:=H1;clear H1;obtain rfl:=OSI H;go_wp2;go_ret;exact⟨zq2,zq0⟩
   ·replace c9:=Bool.eq_false_iff.mpr c9
    subst c9;have H1:(r17_Tail.l0 kj1 l0 1 0)=some r:=by rw[if_neg (show ¬ (false=true) by decide)] at H;exact H
    clear H;have H:=H1;clear H1;have H':=Aside0.mk H;clear H;go_wp2
    go_loopg [3,4] kj1 (fun kq v3 v4 w'=>∃ (x3_2:Int) (x4_2:Int),v3 = .int .i64 x3_2/\v4 = .int .i64 x4_2/\Aside0 (r17_Tail.l0 kq l0 x3_2 x4_2=some r)/\Aside0 (kq<=kj1)/\Aside0 (Below w.heap.size w w'))
    case atStart=>exact⟨(1),(0),zq3,zq3,H',⟨Nat.le_refl _⟩,⟨zq0⟩⟩
    case round =>
     clear H'
     try clear p2
     try clear q2
     try clear hx2
     try clear c3
     try clear c3b0
     try clear c3b1
     try clear c3b2
     try clear c5
     try clear c5b0
     try clear c6
     try clear c6b0
     try clear p6
     try clear c8
     try clear c9
     try clear hx274_0
     try clear hx274_1
     try clear hx274_2
     try clear p2
     try clear p274
     try clear p6
     try clear q2
     try clear q274
     obtain⟨x3_2,x4_2,rfl,rfl,HA,HK2,HB⟩:=hrel;cases gk with
     | zero=>exact absurd HA.out (by simp[r17_Tail.l0])
     | succ k2 =>
      have H:=HA.out;clear HA;simp only[r17_Tail.l0] at H;obtain⟨ji10,hji10⟩:∃ j_:Int,(wrap64 ((l0.length:Int) - 1))=j_:=⟨_,rfl⟩
      replace H:(if 0<=(ji10) then (if (ji10)<(l0.length:Int) then ((r17_Takes.f k2 ((rd_T68 l0 (ji10)).f0)).bind fun t277=>(if x4_2<t277 then (if 0<=(wrap64 ((l0.length:Int) - x3_2)) then (if (wrap64 ((l0.length:Int) - x3_2))<=(l0.length:Int) then ((r17_Tail.f k2 (l0.take ((wrap64 ((l0.length:Int) - x3_2)):Int).toNat)).bind fun t282=>(if t282=0 then (some 0) else (r17_Tail.l0 k2 l0 (wrap64 (x3_2+t282)) (wrap64 (x4_2+1))))) else (none)) else (none)) else (some x3_2))) else (none)) else (none))=some r:=by first | (rw[hji10] at H;exact H) | (simp only[hji10] at H ⊢;exact H)
      have hji10w:(IntKind.i64.wrap ((l0.length:Int) - 1))=ji10:=(i64_w _).trans hji10
      by_cases c11:0<=(ji10)
      ·rw[if_pos c11] at H
       have c11b0:decide (0<=(ji10))=true:=DET c11;clear c11
       by_cases c12:(ji10)<(l0.length:Int)
       ·rw[if_pos c12] at H
        have c12b0:decide ((ji10)<(l0.length:Int))=true:=DET c12;clear c12;replace H:=Option.bind_eq_some_iff.mp H;obtain⟨t277,A130,H⟩:=H;replace H:(if x4_2<t277 then (if 0<=(wrap64 ((l0.length:Int) - x3_2)) then (if (wrap64 ((l0.length:Int) - x3_2))<=(l0.length:Int) then ((r17_Tail.f k2 (l0.take ((wrap64 ((l0.length:Int) - x3_2)):Int).toNat)).bind fun t282=>(if t282=0 then (some 0) else (r17_Tail.l0 k2 l0 (wrap64 (x3_2+t282)) (wrap64 (x4_2+1))))) else (none)) else (none)) else (some x3_2))=some r:=H;have A13:=Aside0.mk A130;clear A130
        by_cases c14:x4_2<t277
        ·rw[if_pos c14] at H
         have c14b0:decide (x4_2<t277)=true:=DET c14;clear c14;obtain⟨ji15,hji15⟩:∃ j_:Int,(wrap64 ((l0.length:Int) - x3_2))=j_:=⟨_,rfl⟩
         replace H:(if 0<=(ji15) then (if (ji15)<=(l0.length:Int) then ((r17_Tail.f k2 (l0.take ((ji15):Int).toNat)).bind fun t282=>(if t282=0 then (some 0) else (r17_Tail.l0 k2 l0 (wrap64 (x3_2+t282)) (wrap64 (x4_2+1))))) else (none)) else (none))=some r:=by first | (rw[hji15] at H;exact H) | (simp only[hji15] at H ⊢;exact H)
         (try rw[hji15] at A13)
         have hji15w:(IntKind.i64.wrap ((l0.length:Int) - x3_2))=ji15:=(i64_w _).trans hji15
         by_cases c16:0<=(ji15)
         ·rw[if_pos c16] at H
          have c16b0:=eq_true c16;have c16b1:decide (0<=(ji15))=true:=DET c16;clear c16
          by_cases c17:(ji15)<=(l0.length:Int)
          ·rw[if_pos c17] at H
           have c17b0:=eq_true c17;have c17b1:decide ((ji15)<=(l0.length:Int))=true:=DET c17;clear c17;obtain⟨y278,hy278⟩:∃ y_:List (S68),y_=(l0.take ((ji15):Int).toNat):=⟨_,rfl⟩
           replace H:((r17_Tail.f k2 y278).bind fun t282=>(if t282=0 then (some 0) else (r17_Tail.l0 k2 l0 (wrap64 (x3_2+t282)) (wrap64 (x4_2+1)))))=some r:=by first | (rw[hy278];with_reducible exact H) | (have H2_:=(Option.bind_some _ _).symm.trans H;rw[hy278];with_reducible exact H2_) | (have H2_:=(Option.bind_some _ _).symm.trans H;with_reducible exact H2_) | with_reducible exact H | (rw[hy278];exact H) | exact H
           have Ny278:=Aside0.mk hy278;clear hy278;replace H:=Option.bind_eq_some_iff.mp H;obtain⟨t282,A180,H⟩:=H;replace H:(if t282=0 then (some 0) else (r17_Tail.l0 k2 l0 (wrap64 (x3_2+t282)) (wrap64 (x4_2+1))))=some r:=H;have A18:=Aside0.mk A180;clear A180
           by_cases c19:t282=0
           ·rw[if_pos c19] at H
            have c19b0:(t282 == 0)=true:=beq_iff_eq.mpr c19;have c19b1:(t282 != 0)=false:=bne_eq_false_iff_eq.mpr c19;clear c19;obtain rfl:=OSI H;have p276:0<=((ji10):Int):=ODT zq1;have q276:(ji10)<(l0.length:Int):=ODT zq1;obtain⟨ad276,e276,hx276_0,hx276_1,hx276_2⟩:=at_T68 HR0.out (ji10) p276 q276;cases e276;replace hx276_0:=hZ hx276_0 HB.out;replace hx276_1:=hZ hx276_1 HB.out;replace hx276_2:=hZ hx276_2 HB.out;replace p276:=eq_true p276;replace q276:=eq_true q276
            go_wp2_with (first | ((with_reducible refine gate_callee (f:=130) rfl ?_);refine goesL_ (some 27) rfl rfl Tryz.func130 zq17 rfl #[.int .i64 ((rd_T68 l0 (ji10)).f0)] rfl zq63 ?_;(with_reducible refine (r17_Takes.calls k2 ((rd_T68 l0 (ji10)).f0) t277 _ A13.out).mono ?_);rintro e w' ⟨rfl,⟨nd,rfl⟩⟩;refine⟨_,rfl,?_⟩;have q20:((ji15):Int)<=((l0.length:Int):Int):=ODT zq1;obtain⟨i020,hi020,_,hsz20,_⟩:=info_parts info68;have hroom20:l0.length<=c0:=HC0.out;have hC20:Kd.C k68 _ (some ad276) l0.length l0:=HR0.out;have hcut20:=cut_to (P:=Tryz.prog) 24 68 .i64 Tryz.underlying24 hi020 (some ad276) l0.length c0 (ji15) (ODT zq1) q20 hroom20;have hr20:=Kd.C_take (m:=((ji15):Int).toNat) hC20 zq4;have hy20:y278.length=((ji15):Int).toNat:=(by rw[Ny278.out,List.length_take];omega);rw[<- Ny278.out] at hr20;rw[<- hy20] at hcut20;have HR281:=Aside0.mk hr20;have HC281:=Aside0.mk (show y278.length<=c0 from by omega);clear hr20 hC20 hroom20 hi020 hsz20;have KY20:=Aside0.mk hy20;clear hy20;replace q20:=eq_true q20) | (refine gZ 37 Tryz.func88 #[.slice (some ad276) y278.length c0] ?_;(with_reducible refine (ih k2 (by have:=HJ1.out;have:=HK2.out;omega) _ _ y278 t282 _ ?side1 ?side2 A18.out).mono ?_);(case side1=>repeat (first | exact (Kd.C_below HR281.out zq0) | (with_reducible refine Kd.C_alloc ?_ _) | (with_reducible refine Kd.C_drewN ?_ _) | (with_reducible refine Kd.C_drew ?_)));(case side2=>exact HC281.out);rintro e w21 ⟨rfl,hb⟩;refine⟨_,rfl,?_⟩;replace HB:=BB HB hb;(try clear hb)))
            go_ret;exact⟨(by first | rfl | (simp[errW_none,errW_some] <;> rfl) | (simp only[<- hji10, <- hji15];first | rfl | (simp[errW_none,errW_some] <;> rfl)) | (simp[*,errW_none,errW_some] <;> rfl)),zq0⟩
           ·rw[if_neg c19] at H
            have c19b0:(t282 == 0)=false:=BNM c19;have c19b1:(t282 != 0)=true:=bne_iff_ne.mpr c19;have H':=Aside0.mk H;clear H;have p276:0<=((ji10):Int):=ODT zq1;have q276:(ji10)<(l0.length:Int):=ODT zq1;obtain⟨ad276,e276,hx276_0,hx276_1,hx276_2⟩:=at_T68 HR0.out (ji10) p276 q276;cases e276;replace hx276_0:=hZ hx276_0 HB.out;replace hx276_1:=hZ hx276_1 HB.out;replace hx276_2:=hZ hx276_2 HB.out;replace p276:=eq_true p276;replace q276:=eq_true q276
            go_wp2_with (first | ((with_reducible refine gate_callee (f:=130) rfl ?_);refine goesL_ (some 27) rfl rfl Tryz.func130 zq17 rfl #[.int .i64 ((rd_T68 l0 (ji10)).f0)] rfl zq63 ?_;(with_reducible refine (r17_Takes.calls k2 ((rd_T68 l0 (ji10)).f0) t277 _ A13.out).mono ?_);rintro e w' ⟨rfl,⟨nd,rfl⟩⟩;refine⟨_,rfl,?_⟩;have q22:((ji15):Int)<=((l0.length:Int):Int):=ODT zq1;obtain⟨i022,hi022,_,hsz22,_⟩:=info_parts info68;have hroom22:l0.length<=c0:=HC0.out;have hC22:Kd.C k68 _ (some ad276) l0.length l0:=HR0.out;have hcut22:=cut_to (P:=Tryz.prog) 24 68 .i64 Tryz.underlying24 hi022 (some ad276) l0.length c0 (ji15) (ODT zq1) q22 hroom22;have hr22:=Kd.C_take (m:=((ji15):Int).toNat) hC22 zq4;have hy22:y278.length=((ji15):Int).toNat:=(by rw[Ny278.out,List.length_take];omega);rw[<- Ny278.out] at hr22;rw[<- hy22] at hcut22;have HR281:=Aside0.mk hr22;have HC281:=Aside0.mk (show y278.length<=c0 from by omega);clear hr22 hC22 hroom22 hi022 hsz22;have KY22:=Aside0.mk hy22;clear hy22;replace q22:=eq_true q22) | (refine gZ 37 Tryz.func88 #[.slice (some ad276) y278.length c0] ?_;(with_reducible refine (ih k2 (by have:=HJ1.out;have:=HK2.out;omega) _ _ y278 t282 _ ?side1 ?side2 A18.out).mono ?_);(case side1=>repeat (first | exact (Kd.C_below HR281.out zq0) | (with_reducible refine Kd.C_alloc ?_ _) | (with_reducible refine Kd.C_drewN ?_ _) | (with_reducible refine Kd.C_drew ?_)));(case side2=>exact HC281.out);rintro e w23 ⟨rfl,hb⟩;refine⟨_,rfl,?_⟩;replace HB:=BB HB hb;(try clear hb)))
            go_roundg k2
            case measure=>have:=HJ1.out;have:=HK2.out;omega
            case rel=>exact⟨(wrap64 (x3_2+t282)),(wrap64 (x4_2+1)),zq3,zq3,H',⟨by have:=HJ1.out;have:=HK2.out;omega⟩,⟨zq0⟩⟩
          ·rw[if_neg c17] at H
           exact absurd H zq30
         ·rw[if_neg c16] at H
          exact absurd H zq30
        ·rw[if_neg c14] at H
         have c14b0:decide (x4_2<t277)=false:=DEF c14;clear c14;obtain rfl:=OSI H;have p276:0<=((ji10):Int):=ODT zq1;have q276:(ji10)<(l0.length:Int):=ODT zq1;obtain⟨ad276,e276,hx276_0,hx276_1,hx276_2⟩:=at_T68 HR0.out (ji10) p276 q276;cases e276;replace hx276_0:=hZ hx276_0 HB.out;replace hx276_1:=hZ hx276_1 HB.out;replace hx276_2:=hZ hx276_2 HB.out;replace p276:=eq_true p276;replace q276:=eq_true q276
         go_wp2_with (first | ((with_reducible refine gate_callee (f:=130) rfl ?_);refine goesL_ (some 27) rfl rfl Tryz.func130 zq17 rfl #[.int .i64 ((rd_T68 l0 (ji10)).f0)] rfl zq63 ?_;(with_reducible refine (r17_Takes.calls k2 ((rd_T68 l0 (ji10)).f0) t277 _ A13.out).mono ?_);rintro e w' ⟨rfl,⟨nd,rfl⟩⟩;refine⟨_,rfl,?_⟩))
         go_ret;exact⟨(by first | rfl | (simp[errW_none,errW_some] <;> rfl) | (simp only[<- hji10];first | rfl | (simp[errW_none,errW_some] <;> rfl)) | (simp[*,errW_none,errW_some] <;> rfl)),zq0⟩
       ·rw[if_neg c12] at H
        exact absurd H zq30
      ·rw[if_neg c11] at H
       exact absurd H zq30
def r17_Form.f (k:Nat) (l0:List (S68)):Option (Int):=if (l0.length:Int) > 64 then (some 6) else (if (l0.length:Int)=0 then (some 18) else ((r17_Tail.f k l0).bind fun t283=>(if t283=(l0.length:Int) then (some 0) else (some 18))))
theorem r17_Form.calls (k:Nat) (A0:Option Addr) (c0:Nat) (l0:List (S68)) (r:Int) (w:World) (hr0:Kd.C k68 w A0 l0.length l0) (hc0:l0.length<=c0) (h:r17_Form.f k l0=some r) :
  Calls Tryz.prog 51 #[.slice A0 l0.length c0] w fun e w'=>e = .returned (.int .i64 r)/\Below w.heap.size w w':=by
 have HR0:=Aside0.mk hr0;have HC0:=Aside0.mk hc0;clear hr0 hc0;have HB:=Aside0.mk (Below.refl w.heap.size w);have H:(if (l0.length:Int) > 64 then (some 6) else (if (l0.length:Int)=0 then (some 18) else ((r17_Tail.f k l0).bind fun t283=>(if t283=(l0.length:Int) then (some 0) else (some 18)))))=some r:=h;clear h
 by_cases c2:(l0.length:Int) > 64
 ·rw[if_pos c2] at H
  have c2b0:decide (64<(l0.length:Int))=true:=DET c2;have c2b1:decide (64<l0.length)=true:=DET zq4;clear c2;obtain rfl:=OSI H;go_enter Tryz.func51,Tryz.ntmps51;go_wp2;go_ret;exact⟨zq2,zq0⟩
 ·rw[if_neg c2] at H
  have c2b0:decide (64<(l0.length:Int))=false:=DEF c2;have c2b1:decide (64<l0.length)=false:=DEF zq4;clear c2
  by_cases c3:(l0.length:Int)=0
  ·rw[if_pos c3] at H
   have c3b0:((l0.length:Int) == 0)=true:=beq_iff_eq.mpr c3;have c3b1:((l0.length:Int) != 0)=false:=bne_eq_false_iff_eq.mpr c3;clear c3;obtain rfl:=OSI H;go_enter Tryz.func51,Tryz.ntmps51;go_wp2;go_ret;exact⟨zq2,zq0⟩
  ·rw[if_neg c3] at H
   have c3b0:((l0.length:Int) == 0)=false:=BNM c3;have c3b1:((l0.length:Int) != 0)=true:=bne_iff_ne.mpr c3;have c3b2:¬ (l0=[]):=fun h_=>c3 (by rw[h_];rfl)
   replace H:=Option.bind_eq_some_iff.mp H;obtain⟨t283,A40,H⟩:=H;replace H:(if t283=(l0.length:Int) then (some 0) else (some 18))=some r:=H;have A4:=Aside0.mk A40;clear A40
   by_cases c5:t283=(l0.length:Int)
   ·rw[if_pos c5] at H
    have c5b0:(t283 == (l0.length:Int))=true:=beq_iff_eq.mpr c5;have c5b1:(t283 != (l0.length:Int))=false:=bne_eq_false_iff_eq.mpr c5;clear c5;obtain rfl:=OSI H;go_enter Tryz.func51,Tryz.ntmps51
    go_wp2_with (first | (go_at_call 88;(with_reducible refine (r17_Tail.calls k _ _ l0 t283 _ ?side1 ?side2 A4.out).mono ?_);(case side1=>exact cQ HR0.out);(case side2=>exact HC0.out);rintro e w6 ⟨rfl,hb⟩;replace HB:=BB HB hb;(try clear hb)))
    go_ret;exact⟨zq2,zq0⟩
   ·rw[if_neg c5] at H
    have c5b0:(t283 == (l0.length:Int))=false:=BNM c5;have c5b1:(t283 != (l0.length:Int))=true:=bne_iff_ne.mpr c5;obtain rfl:=OSI H;go_enter Tryz.func51,Tryz.ntmps51
    go_wp2_with (first | (go_at_call 88;(with_reducible refine (r17_Tail.calls k _ _ l0 t283 _ ?side1 ?side2 A4.out).mono ?_);(case side1=>exact cQ HR0.out);(case side2=>exact HC0.out);rintro e w7 ⟨rfl,hb⟩;replace HB:=BB HB hb;(try clear hb)))
    go_ret;exact⟨zq2,zq0⟩
attribute [local go_sem] max2_int min2_int max_two min_two max_three min_three max_four min_four
def r05_Num.f (a0:Int):Option (Int × Int × ByteArray):=some (1,a0,(⟨#[]⟩:ByteArray))
theorem r05_Num.calls (a0:Int) (r1:Int) (r2:Int) (r3:ByteArray) (w:World) (h:r05_Num.f a0=some (r1,r2,r3)) :
  Calls Tryz.prog 178 #[.int .i64 a0] w fun e w'=>e = .returned (.agg #[.int .i64 r1,.int .i64 r2,.string r3])/\Below w.heap.size w w':=by
 have hu65:=Tryz.underlying65;have HB:=Aside0.mk (Below.refl w.heap.size w);have H:(some (1,a0,(⟨#[]⟩:ByteArray)))=some (r1,r2,r3):=h;clear h;simp only[Option.some.injEq,Prod.mk.injEq] at H;obtain⟨rfl,rfl,rfl⟩:=H;go_enter Tryz.func178,Tryz.ntmps178
 go_wp2_with (first | (refine bZ 2 #[.int .i64 0,.int .i64 0,.string (⟨#[]⟩:ByteArray)] 65 ?_;intro gb317 hg w2 hbox hb;have BK317:=Aside0.mk (hbox);have GW317:=GB HB hg;have GE317:=GW317;replace HB:=BB HB hb;clear hb hbox hg;obtain⟨hcz3_0,hcz3_1,hcz3_2,hfz3_0,hfz3_1,hfz3_2⟩:=bL3 BK317))
 refine bodyPost_ret (results_cell_row rfl _ _ gb317 65 #[.int .i64 1,.int .i64 a0,.string (⟨#[]⟩:ByteArray)] (0,0) _ rfl (by (with_reducible repeat (first | refine blk_drewN ?_ _ | refine blk_drew ?_ | refine blk_alloc ?_ _));refine blk_put (cs:=#[.int .i64 1,.int .i64 a0,.string (⟨#[]⟩:ByteArray)]) ?_ 2 _ rfl;(with_reducible repeat (first | refine blk_drewN ?_ _ | refine blk_drew ?_ | refine blk_alloc ?_ _));refine blk_put (cs:=#[.int .i64 1,.int .i64 0,.string (⟨#[]⟩:ByteArray)]) ?_ 1 _ rfl;(with_reducible repeat (first | refine blk_drewN ?_ _ | refine blk_drew ?_ | refine blk_alloc ?_ _));refine blk_put (cs:=#[.int .i64 0,.int .i64 0,.string (⟨#[]⟩:ByteArray)]) ?_ 0 _ rfl;(with_reducible repeat (first | refine blk_drewN ?_ _ | refine blk_drew ?_ | refine blk_alloc ?_ _));exact BK317.out) Tryz.underlying65 rfl zq17) rfl ?_;exact⟨zq2,(by repeat (first | (with_reducible first | exact HB.out | apply below_alloc | apply pw_below_drewN | apply below_drew1 | refine below_set ?_ GE317.out) | exact HB.out))⟩
def r18_truth.f (a0:Bool):Option (Int × Int × ByteArray × Int):=if a0=true then ((r05_Num.f 1).bind fun bt319=>(some (bt319.1,bt319.2.1,bt319.2.2,0))) else ((r05_Num.f 0).bind fun bt322=>(some (bt322.1,bt322.2.1,bt322.2.2,0)))
theorem r18_truth.calls (a0:Bool) (r1:Int) (r2:Int) (r3:ByteArray) (r4:Int) (w:World) (h:r18_truth.f a0=some (r1,r2,r3,r4)) :
  Calls Tryz.prog 170 #[.bool a0] w fun e w'=>e = .returned (.tuple #[.agg #[.int .i64 r1,.int .i64 r2,.string r3],.int .i64 r4])/\Below w.heap.size w w':=by
 have hu65:=Tryz.underlying65;have HB:=Aside0.mk (Below.refl w.heap.size w);have H:(if a0=true then ((r05_Num.f 1).bind fun bt319=>(some (bt319.1,bt319.2.1,bt319.2.2,0))) else ((r05_Num.f 0).bind fun bt322=>(some (bt322.1,bt322.2.1,bt322.2.2,0))))=some (r1,r2,r3,r4):=h;clear h
 by_cases c2:a0=true
 ·subst c2
  have H1:((r05_Num.f 1).bind fun bt319=>(some (bt319.1,bt319.2.1,bt319.2.2,0)))=some (r1,r2,r3,r4):=by rw[if_pos rfl] at H;exact H
  clear H;have H:=H1;clear H1;replace H:=Option.bind_eq_some_iff.mp H;obtain⟨⟨t319,t320,t321⟩,A30,H⟩:=H;replace H:(some (t319,t320,t321,0))=some (r1,r2,r3,r4):=H;have A3:=Aside0.mk A30;clear A30;simp only[Option.some.injEq,Prod.mk.injEq] at H;obtain⟨rfl,rfl,rfl,rfl⟩:=H;go_enter Tryz.func170,Tryz.ntmps170
  go_wp2_with (first | (refine bZ 2 #[.int .i64 0,.int .i64 0,.string (⟨#[]⟩:ByteArray)] 65 ?_;intro gb318 hg w4 hbox hb;have BK318:=Aside0.mk (hbox);have GW318:=GB HB hg;have GE318:=GW318;replace HB:=BB HB hb;clear hb hbox hg) | (refine gZ 5 Tryz.func178 #[.int .i64 1] ?_;(with_reducible refine (r05_Num.calls 1 t319 t320 t321 _ A3.out).mono ?_);rintro e w5 ⟨rfl,hb⟩;refine⟨_,rfl,?_⟩;replace BK318:=KB BK318 hb;replace HB:=Aside0.mk (below_step zq49 hb);(try clear hb);obtain⟨hcz6_0,hcz6_1,hcz6_2,hfz6_0,hfz6_1,hfz6_2⟩:=bL3 BK318))
  refine bodyPost_ret (results_ct rfl _ _ gb318 65 #[.int .i64 t319,.int .i64 t320,.string t321] (0,0) _ rfl (by (with_reducible repeat (first | refine blk_drewN ?_ _ | refine blk_drew ?_ | refine blk_alloc ?_ _));refine blk_put (cs:=#[.int .i64 t319,.int .i64 t320,.string (⟨#[]⟩:ByteArray)]) ?_ 2 _ rfl;(with_reducible repeat (first | refine blk_drewN ?_ _ | refine blk_drew ?_ | refine blk_alloc ?_ _));refine blk_put (cs:=#[.int .i64 t319,.int .i64 0,.string (⟨#[]⟩:ByteArray)]) ?_ 1 _ rfl;(with_reducible repeat (first | refine blk_drewN ?_ _ | refine blk_drew ?_ | refine blk_alloc ?_ _));refine blk_put (cs:=#[.int .i64 0,.int .i64 0,.string (⟨#[]⟩:ByteArray)]) ?_ 0 _ rfl;(with_reducible repeat (first | refine blk_drewN ?_ _ | refine blk_drew ?_ | refine blk_alloc ?_ _));exact BK318.out) Tryz.underlying65 rfl zq17) rfl ?_;exact⟨zq2,zq49⟩
 ·replace c2:=Bool.eq_false_iff.mpr c2
  subst c2;have H1:((r05_Num.f 0).bind fun bt322=>(some (bt322.1,bt322.2.1,bt322.2.2,0)))=some (r1,r2,r3,r4):=by rw[if_neg (show ¬ (false=true) by decide)] at H;exact H
  clear H;have H:=H1;clear H1;replace H:=Option.bind_eq_some_iff.mp H;obtain⟨⟨t322,t323,t324⟩,A70,H⟩:=H;replace H:(some (t322,t323,t324,0))=some (r1,r2,r3,r4):=H;have A7:=Aside0.mk A70;clear A70;simp only[Option.some.injEq,Prod.mk.injEq] at H;obtain⟨rfl,rfl,rfl,rfl⟩:=H;go_enter Tryz.func170,Tryz.ntmps170
  go_wp2_with (first | (refine bZ 2 #[.int .i64 0,.int .i64 0,.string (⟨#[]⟩:ByteArray)] 65 ?_;intro gb318 hg w8 hbox hb;have BK318:=Aside0.mk (hbox);have GW318:=GB HB hg;have GE318:=GW318;replace HB:=BB HB hb;clear hb hbox hg) | (refine gZ 6 Tryz.func178 #[.int .i64 0] ?_;(with_reducible refine (r05_Num.calls 0 t322 t323 t324 _ A7.out).mono ?_);rintro e w9 ⟨rfl,hb⟩;refine⟨_,rfl,?_⟩;replace BK318:=KB BK318 hb;replace HB:=Aside0.mk (below_step zq49 hb);(try clear hb);obtain⟨hcz10_0,hcz10_1,hcz10_2,hfz10_0,hfz10_1,hfz10_2⟩:=bL3 BK318))
  refine bodyPost_ret (results_ct rfl _ _ gb318 65 #[.int .i64 t322,.int .i64 t323,.string t324] (0,0) _ rfl (by (with_reducible repeat (first | refine blk_drewN ?_ _ | refine blk_drew ?_ | refine blk_alloc ?_ _));refine blk_put (cs:=#[.int .i64 t322,.int .i64 t323,.string (⟨#[]⟩:ByteArray)]) ?_ 2 _ rfl;(with_reducible repeat (first | refine blk_drewN ?_ _ | refine blk_drew ?_ | refine blk_alloc ?_ _));refine blk_put (cs:=#[.int .i64 t322,.int .i64 0,.string (⟨#[]⟩:ByteArray)]) ?_ 1 _ rfl;(with_reducible repeat (first | refine blk_drewN ?_ _ | refine blk_drew ?_ | refine blk_alloc ?_ _));refine blk_put (cs:=#[.int .i64 0,.int .i64 0,.string (⟨#[]⟩:ByteArray)]) ?_ 0 _ rfl;(with_reducible repeat (first | refine blk_drewN ?_ _ | refine blk_drew ?_ | refine blk_alloc ?_ _));exact BK318.out) Tryz.underlying65 rfl zq17) rfl ?_;exact⟨zq2,zq49⟩
def r05_Text.f (a0:ByteArray):Option (Int × Int × ByteArray):=some (2,0,a0)
theorem r05_Text.calls (a0:ByteArray) (r1:Int) (r2:Int) (r3:ByteArray) (w:World) (h:r05_Text.f a0=some (r1,r2,r3)) :
  Calls Tryz.prog 171 #[.string a0] w fun e w'=>e = .returned (.agg #[.int .i64 r1,.int .i64 r2,.string r3])/\Below w.heap.size w w':=by
 have hu65:=Tryz.underlying65;have HB:=Aside0.mk (Below.refl w.heap.size w);have H:(some (2,0,a0))=some (r1,r2,r3):=h;clear h;simp only[Option.some.injEq,Prod.mk.injEq] at H;obtain⟨rfl,rfl,rfl⟩:=H;go_enter Tryz.func171,Tryz.ntmps171
 go_wp2_with (first | (refine bZ 2 #[.int .i64 0,.int .i64 0,.string (⟨#[]⟩:ByteArray)] 65 ?_;intro gb325 hg w2 hbox hb;have BK325:=Aside0.mk (hbox);have GW325:=GB HB hg;have GE325:=GW325;replace HB:=BB HB hb;clear hb hbox hg;obtain⟨hcz3_0,hcz3_1,hcz3_2,hfz3_0,hfz3_1,hfz3_2⟩:=bL3 BK325))
 refine bodyPost_ret (results_cell_row rfl _ _ gb325 65 #[.int .i64 2,.int .i64 0,.string a0] (0,0) _ rfl (by (with_reducible repeat (first | refine blk_drewN ?_ _ | refine blk_drew ?_ | refine blk_alloc ?_ _));refine blk_put (cs:=#[.int .i64 2,.int .i64 0,.string (⟨#[]⟩:ByteArray)]) ?_ 2 _ rfl;(with_reducible repeat (first | refine blk_drewN ?_ _ | refine blk_drew ?_ | refine blk_alloc ?_ _));refine blk_put (cs:=#[.int .i64 2,.int .i64 0,.string (⟨#[]⟩:ByteArray)]) ?_ 1 _ rfl;(with_reducible repeat (first | refine blk_drewN ?_ _ | refine blk_drew ?_ | refine blk_alloc ?_ _));refine blk_put (cs:=#[.int .i64 0,.int .i64 0,.string (⟨#[]⟩:ByteArray)]) ?_ 0 _ rfl;(with_reducible repeat (first | refine blk_drewN ?_ _ | refine blk_drew ?_ | refine blk_alloc ?_ _));exact BK325.out) Tryz.underlying65 rfl zq17) rfl ?_;exact⟨zq2,(by repeat (first | (with_reducible first | exact HB.out | apply below_alloc | apply pw_below_drewN | apply below_drew1 | refine below_set ?_ GE325.out) | exact HB.out))⟩
def r18_number.f (a0:Int) (a1:Int):Option (Int × Int × ByteArray × Int):=if a1=0 then ((r05_Num.f a0).bind fun bt327=>(some (bt327.1,bt327.2.1,bt327.2.2,0))) else (some (0,0,(⟨#[]⟩:ByteArray),a1))
theorem r18_number.calls (a0:Int) (a1:Int) (r1:Int) (r2:Int) (r3:ByteArray) (r4:Int) (w:World) (h:r18_number.f a0 a1=some (r1,r2,r3,r4)) :
  Calls Tryz.prog 172 #[.int .i64 a0,.int .i64 a1] w fun e w'=>e = .returned (.tuple #[.agg #[.int .i64 r1,.int .i64 r2,.string r3],.int .i64 r4])/\Below w.heap.size w w':=by
 have hu65:=Tryz.underlying65;have HB:=Aside0.mk (Below.refl w.heap.size w);have H:(if a1=0 then ((r05_Num.f a0).bind fun bt327=>(some (bt327.1,bt327.2.1,bt327.2.2,0))) else (some (0,0,(⟨#[]⟩:ByteArray),a1)))=some (r1,r2,r3,r4):=h;clear h
 by_cases c3:a1=0
 ·rw[if_pos c3] at H
  have c3b0:(a1 == 0)=true:=beq_iff_eq.mpr c3;have c3b1:(a1 != 0)=false:=bne_eq_false_iff_eq.mpr c3;clear c3;replace H:=Option.bind_eq_some_iff.mp H;obtain⟨⟨t327,t328,t329⟩,A40,H⟩:=H;replace H:(some (t327,t328,t329,0))=some (r1,r2,r3,r4):=H;have A4:=Aside0.mk A40;clear A40;simp only[Option.some.injEq,Prod.mk.injEq] at H;obtain⟨rfl,rfl,rfl,rfl⟩:=H;go_enter Tryz.func172,Tryz.ntmps172
  go_wp2_with (first | (refine bZ 4 #[.int .i64 0,.int .i64 0,.string (⟨#[]⟩:ByteArray)] 65 ?_;intro gb326 hg w5 hbox hb;have BK326:=Aside0.mk (hbox);have GW326:=GB HB hg;have GE326:=GW326;replace HB:=BB HB hb;clear hb hbox hg) | (refine gZ 11 Tryz.func178 #[.int .i64 a0] ?_;(with_reducible refine (r05_Num.calls a0 t327 t328 t329 _ A4.out).mono ?_);rintro e w6 ⟨rfl,hb⟩;refine⟨_,rfl,?_⟩;replace BK326:=KB BK326 hb;replace HB:=Aside0.mk (below_step zq65 hb);(try clear hb);obtain⟨hcz7_0,hcz7_1,hcz7_2,hfz7_0,hfz7_1,hfz7_2⟩:=bL3 BK326))
  refine bodyPost_ret (results_ct rfl _ _ gb326 65 #[.int .i64 t327,.int .i64 t328,.string t329] (0,0) _ rfl (by (with_reducible repeat (first | refine blk_drewN ?_ _ | refine blk_drew ?_ | refine blk_alloc ?_ _));refine blk_put (cs:=#[.int .i64 t327,.int .i64 t328,.string (⟨#[]⟩:ByteArray)]) ?_ 2 _ rfl;(with_reducible repeat (first | refine blk_drewN ?_ _ | refine blk_drew ?_ | refine blk_alloc ?_ _));refine blk_put (cs:=#[.int .i64 t327,.int .i64 0,.string (⟨#[]⟩:ByteArray)]) ?_ 1 _ rfl;(with_reducible repeat (first | refine blk_drewN ?_ _ | refine blk_drew ?_ | refine blk_alloc ?_ _));refine blk_put (cs:=#[.int .i64 0,.int .i64 0,.string (⟨#[]⟩:ByteArray)]) ?_ 0 _ rfl;(with_reducible repeat (first | refine blk_drewN ?_ _ | refine blk_drew ?_ | refine blk_alloc ?_ _));exact BK326.out) Tryz.underlying65 rfl zq17) rfl ?_;exact⟨zq2,zq65⟩
 ·rw[if_neg c3] at H
  have c3b0:(a1 == 0)=false:=BNM c3;have c3b1:(a1 != 0)=true:=bne_iff_ne.mpr c3;simp only[Option.some.injEq,Prod.mk.injEq] at H;obtain⟨rfl,rfl,rfl,rfl⟩:=H;go_enter Tryz.func172,Tryz.ntmps172
  go_wp2_with (first | (refine bZ 4 #[.int .i64 0,.int .i64 0,.string (⟨#[]⟩:ByteArray)] 65 ?_;intro gb326 hg w8 hbox hb;have BK326:=Aside0.mk (hbox);have GW326:=GB HB hg;have GE326:=GW326;replace HB:=BB HB hb;clear hb hbox hg;obtain⟨hcz9_0,hcz9_1,hcz9_2,hfz9_0,hfz9_1,hfz9_2⟩:=bL3 BK326))
  refine bodyPost_ret (results_ct rfl _ _ gb326 65 #[.int .i64 0,.int .i64 0,.string (⟨#[]⟩:ByteArray)] (0,0) _ rfl (by (with_reducible repeat (first | refine blk_drewN ?_ _ | refine blk_drew ?_ | refine blk_alloc ?_ _));refine blk_put (cs:=#[.int .i64 0,.int .i64 0,.string (⟨#[]⟩:ByteArray)]) ?_ 2 _ rfl;(with_reducible repeat (first | refine blk_drewN ?_ _ | refine blk_drew ?_ | refine blk_alloc ?_ _));refine blk_put (cs:=#[.int .i64 0,.int .i64 0,.string (⟨#[]⟩:ByteArray)]) ?_ 1 _ rfl;(with_reducible repeat (first | refine blk_drewN ?_ _ | refine blk_drew ?_ | refine blk_alloc ?_ _));refine blk_put (cs:=#[.int .i64 0,.int .i64 0,.string (⟨#[]⟩:ByteArray)]) ?_ 0 _ rfl;(with_reducible repeat (first | refine blk_drewN ?_ _ | refine blk_drew ?_ | refine blk_alloc ?_ _));exact BK326.out) Tryz.underlying65 rfl zq17) rfl ?_;exact⟨zq2,zq65⟩
def r01_Add.f (a0:Int) (a1:Int):Option (Int × Int):=if a1 > 0 then (if a0 > (wrap64 (9223372036854775807 - a1)) then (some (0,10)) else (if a1<0 then (if a0<(wrap64 ((-9223372036854775808) - a1)) then (some (0,10)) else (some (wrap64 (a0+a1),0))) else (some (wrap64 (a0+a1),0)))) else (if a1<0 then (if a0<(wrap64 ((-9223372036854775808) - a1)) then (some (0,10)) else (some (wrap64 (a0+a1),0))) else (some (wrap64 (a0+a1),0)))
theorem r01_Add.calls (a0:Int) (a1:Int) (r1:Int) (r2:Int) (w:World) (h:r01_Add.f a0 a1=some (r1,r2)) :
  Calls Tryz.prog 173 #[.int .i64 a0,.int .i64 a1] w fun e w'=>e = .returned (.tuple #[.int .i64 r1,.int .i64 r2])/\Drawn0 w w':=by
 have H:(if a1 > 0 then (if a0 > (wrap64 (9223372036854775807 - a1)) then (some (0,10)) else (if a1<0 then (if a0<(wrap64 ((-9223372036854775808) - a1)) then (some (0,10)) else (some (wrap64 (a0+a1),0))) else (some (wrap64 (a0+a1),0)))) else (if a1<0 then (if a0<(wrap64 ((-9223372036854775808) - a1)) then (some (0,10)) else (some (wrap64 (a0+a1),0))) else (some (wrap64 (a0+a1),0))))=some (r1,r2):=h;clear h
 by_cases c3:a1 > 0
 ·rw[if_pos c3] at H
  have c3b0:decide (0<a1)=true:=DET c3;clear c3
  by_cases c4:a0 > (wrap64 (9223372036854775807 - a1))
  ·rw[if_pos c4] at H
   have c4b0:decide ((wrap64 (9223372036854775807 - a1))<a0)=true:=DET c4;clear c4;simp only[Option.some.injEq,Prod.mk.injEq] at H;obtain⟨rfl,rfl⟩:=H;go_enter Tryz.func173,Tryz.ntmps173;go_wp2;go_ret2;exact⟨zq3,zq5⟩
  ·rw[if_neg c4] at H
   have c4b0:decide ((wrap64 (9223372036854775807 - a1))<a0)=false:=DEF c4;clear c4
   by_cases c5:a1<0
   ·rw[if_pos c5] at H
    have c5b0:decide (a1<0)=true:=DET c5;clear c5
    by_cases c6:a0<(wrap64 ((-9223372036854775808) - a1))
    ·rw[if_pos c6] at H
     have c6b0:decide (a0<(wrap64 ((-9223372036854775808) - a1)))=true:=DET c6;clear c6;simp only[Option.some.injEq,Prod.mk.injEq] at H;obtain⟨rfl,rfl⟩:=H;go_enter Tryz.func173,Tryz.ntmps173;go_wp2;go_ret2;exact⟨zq3,zq5⟩
    ·rw[if_neg c6] at H
     have c6b0:decide (a0<(wrap64 ((-9223372036854775808) - a1)))=false:=DEF c6;clear c6;simp only[Option.some.injEq,Prod.mk.injEq] at H;obtain⟨rfl,rfl⟩:=H;go_enter Tryz.func173,Tryz.ntmps173;go_wp2;go_ret2;exact⟨zq3,zq5⟩
   ·rw[if_neg c5] at H
    have c5b0:decide (a1<0)=false:=DEF c5;clear c5;simp only[Option.some.injEq,Prod.mk.injEq] at H;obtain⟨rfl,rfl⟩:=H;go_enter Tryz.func173,Tryz.ntmps173;go_wp2;go_ret2;exact⟨zq3,zq5⟩
 ·rw[if_neg c3] at H
  have c3b0:decide (0<a1)=false:=DEF c3;clear c3
  by_cases c7:a1<0
  ·rw[if_pos c7] at H
   have c7b0:decide (a1<0)=true:=DET c7;clear c7
   by_cases c8:a0<(wrap64 ((-9223372036854775808) - a1))
   ·rw[if_pos c8] at H
    have c8b0:decide (a0<(wrap64 ((-9223372036854775808) - a1)))=true:=DET c8;clear c8;simp only[Option.some.injEq,Prod.mk.injEq] at H;obtain⟨rfl,rfl⟩:=H;go_enter Tryz.func173,Tryz.ntmps173;go_wp2;go_ret2;exact⟨zq3,zq5⟩
   ·rw[if_neg c8] at H
    have c8b0:decide (a0<(wrap64 ((-9223372036854775808) - a1)))=false:=DEF c8;clear c8;simp only[Option.some.injEq,Prod.mk.injEq] at H;obtain⟨rfl,rfl⟩:=H;go_enter Tryz.func173,Tryz.ntmps173;go_wp2;go_ret2;exact⟨zq3,zq5⟩
  ·rw[if_neg c7] at H
   have c7b0:decide (a1<0)=false:=DEF c7;clear c7;simp only[Option.some.injEq,Prod.mk.injEq] at H;obtain⟨rfl,rfl⟩:=H;go_enter Tryz.func173,Tryz.ntmps173;go_wp2;go_ret2;exact⟨zq3,zq5⟩
def r01_Sub.f (a0:Int) (a1:Int):Option (Int × Int):=if a1<0 then (if a0 > (wrap64 (9223372036854775807+a1)) then (some (0,10)) else (if a1 > 0 then (if a0<(wrap64 ((-9223372036854775808)+a1)) then (some (0,10)) else (some (wrap64 (a0 - a1),0))) else (some (wrap64 (a0 - a1),0)))) else (if a1 > 0 then (if a0<(wrap64 ((-9223372036854775808)+a1)) then (some (0,10)) else (some (wrap64 (a0 - a1),0))) else (some (wrap64 (a0 - a1),0)))
theorem r01_Sub.calls (a0:Int) (a1:Int) (r1:Int) (r2:Int) (w:World) (h:r01_Sub.f a0 a1=some (r1,r2)) :
  Calls Tryz.prog 174 #[.int .i64 a0,.int .i64 a1] w fun e w'=>e = .returned (.tuple #[.int .i64 r1,.int .i64 r2])/\Drawn0 w w':=by
 have H:(if a1<0 then (if a0 > (wrap64 (9223372036854775807+a1)) then (some (0,10)) else (if a1 > 0 then (if a0<(wrap64 ((-9223372036854775808)+a1)) then (some (0,10)) else (some (wrap64 (a0 - a1),0))) else (some (wrap64 (a0 - a1),0)))) else (if a1 > 0 then (if a0<(wrap64 ((-9223372036854775808)+a1)) then (some (0,10)) else (some (wrap64 (a0 - a1),0))) else (some (wrap64 (a0 - a1),0))))=some (r1,r2):=h;clear h
 by_cases c3:a1<0
 ·rw[if_pos c3] at H
  have c3b0:decide (a1<0)=true:=DET c3;clear c3
  by_cases c4:a0 > (wrap64 (9223372036854775807+a1))
  ·rw[if_pos c4] at H
   have c4b0:decide ((wrap64 (9223372036854775807+a1))<a0)=true:=DET c4;clear c4;simp only[Option.some.injEq,Prod.mk.injEq] at H;obtain⟨rfl,rfl⟩:=H;go_enter Tryz.func174,Tryz.ntmps174;go_wp2;go_ret2;exact⟨zq3,zq5⟩
  ·rw[if_neg c4] at H
   have c4b0:decide ((wrap64 (9223372036854775807+a1))<a0)=false:=DEF c4;clear c4
   by_cases c5:a1 > 0
   ·rw[if_pos c5] at H
    have c5b0:decide (0<a1)=true:=DET c5;clear c5
    by_cases c6:a0<(wrap64 ((-9223372036854775808)+a1))
    ·rw[if_pos c6] at H
     have c6b0:decide (a0<(wrap64 ((-9223372036854775808)+a1)))=true:=DET c6;clear c6;simp only[Option.some.injEq,Prod.mk.injEq] at H;obtain⟨rfl,rfl⟩:=H;go_enter Tryz.func174,Tryz.ntmps174;go_wp2;go_ret2;exact⟨zq3,zq5⟩
    ·rw[if_neg c6] at H
     have c6b0:decide (a0<(wrap64 ((-9223372036854775808)+a1)))=false:=DEF c6;clear c6;simp only[Option.some.injEq,Prod.mk.injEq] at H;obtain⟨rfl,rfl⟩:=H;go_enter Tryz.func174,Tryz.ntmps174;go_wp2;go_ret2;exact⟨zq3,zq5⟩
   ·rw[if_neg c5] at H
    have c5b0:decide (0<a1)=false:=DEF c5;clear c5;simp only[Option.some.injEq,Prod.mk.injEq] at H;obtain⟨rfl,rfl⟩:=H;go_enter Tryz.func174,Tryz.ntmps174;go_wp2;go_ret2;exact⟨zq3,zq5⟩
 ·rw[if_neg c3] at H
  have c3b0:decide (a1<0)=false:=DEF c3;clear c3
  by_cases c7:a1 > 0
  ·rw[if_pos c7] at H
   have c7b0:decide (0<a1)=true:=DET c7;clear c7
   by_cases c8:a0<(wrap64 ((-9223372036854775808)+a1))
   ·rw[if_pos c8] at H
    have c8b0:decide (a0<(wrap64 ((-9223372036854775808)+a1)))=true:=DET c8;clear c8;simp only[Option.some.injEq,Prod.mk.injEq] at H;obtain⟨rfl,rfl⟩:=H;go_enter Tryz.func174,Tryz.ntmps174;go_wp2;go_ret2;exact⟨zq3,zq5⟩
   ·rw[if_neg c8] at H
    have c8b0:decide (a0<(wrap64 ((-9223372036854775808)+a1)))=false:=DEF c8;clear c8;simp only[Option.some.injEq,Prod.mk.injEq] at H;obtain⟨rfl,rfl⟩:=H;go_enter Tryz.func174,Tryz.ntmps174;go_wp2;go_ret2;exact⟨zq3,zq5⟩
  ·rw[if_neg c7] at H
   have c7b0:decide (0<a1)=false:=DEF c7;clear c7;simp only[Option.some.injEq,Prod.mk.injEq] at H;obtain⟨rfl,rfl⟩:=H;go_enter Tryz.func174,Tryz.ntmps174;go_wp2;go_ret2;exact⟨zq3,zq5⟩
mutual
def r01_Mul.j0:Nat->Int->Int->Bool->Option (Int × Int)
 | 0,_,_,_=>none
 | k+1,x0,x1,x12=>if x12=true then (some (0,0)) else (if x0=(-1) then (if x1=(-9223372036854775808) then (r01_Mul.j1 k x0 x1 true) else (if x1=(-1) then (r01_Mul.j1 k x0 x1 (x0 == (-9223372036854775808))) else (r01_Mul.j1 k x0 x1 false))) else (if x1=(-1) then (r01_Mul.j1 k x0 x1 (x0 == (-9223372036854775808))) else (r01_Mul.j1 k x0 x1 false)))
def r01_Mul.j1:Nat->Int->Int->Bool->Option (Int × Int)
 | 0,_,_,_=>none
 | k+1,x0,x1,x26=>if x26=true then (some (0,10)) else (if x1=0 then (none) else (if (wrap64 (Int.tdiv (wrap64 (x0*x1)) x1))=x0 then (some (wrap64 (x0*x1),0)) else (some (0,10))))
end
def r01_Mul.f (k:Nat) (a0:Int) (a1:Int):Option (Int × Int):=if a0=0 then (r01_Mul.j0 k a0 a1 true) else (r01_Mul.j0 k a0 a1 (a1 == 0))
theorem r01_Mul.calls (k:Nat) (a0:Int) (a1:Int) (r1:Int) (r2:Int) (w:World) (h:r01_Mul.f k a0 a1=some (r1,r2)) :
  Calls Tryz.prog 175 #[.int .i64 a0,.int .i64 a1] w fun e w'=>e = .returned (.tuple #[.int .i64 r1,.int .i64 r2])/\Drawn0 w w':=by
 have H:(if a0=0 then (r01_Mul.j0 k a0 a1 true) else (r01_Mul.j0 k a0 a1 (a1 == 0)))=some (r1,r2):=h;clear h;have HC3:=Aside0.mk H;clear H;go_enter Tryz.func175,Tryz.ntmps175
 go_upto_region 1 with (fail)
 go_cut [12] (fun v12 wc=>∃ (kq:Nat) (x12_2:Bool),v12 = .bool x12_2/\Aside0 (r01_Mul.j0 kq a0 a1 x12_2=some (r1,r2))/\Aside0 (kq<=k)/\Drawn0 w wc)
 case first =>
  have H:=HC3.out;clear HC3
  by_cases c4:a0=0
  ·rw[if_pos c4] at H
   have c4b0:(a0 == 0)=true:=beq_iff_eq.mpr c4;have c4b1:(a0 != 0)=false:=bne_eq_false_iff_eq.mpr c4;clear c4
   (first | rw[c4b0] | (simp only[i64_w,i32_w];rw[c4b0]) | skip)
   have H':=Aside0.mk H;clear H;go_wp2
   go_meet
   case rel=>exact⟨_,(true),zq3,H',⟨zq32⟩,zq5⟩
  ·rw[if_neg c4] at H
   have c4b0:(a0 == 0)=false:=BNM c4;have c4b1:(a0 != 0)=true:=bne_iff_ne.mpr c4
   (first | rw[c4b0] | (simp only[i64_w,i32_w];rw[c4b0]) | skip)
   have H':=Aside0.mk H;clear H;go_wp2
   go_meet
   case rel=>exact⟨_,((a1 == 0)),zq3,H',⟨zq32⟩,zq5⟩
 case rest =>
  clear HC3
  try clear c1
  try clear p2
  try clear c4
  try clear c4b0
  try clear c4b1
  obtain⟨kq,x12_2,rfl,HA,HJ2,⟨mc2,rfl⟩⟩:=hcut;cases kq with
  | zero=>exact absurd HA.out (by simp[r01_Mul.j0])
  | succ kj2 =>
   have H:=HA.out;clear HA;simp only[r01_Mul.j0] at H
   by_cases c5:x12_2=true
   ·subst c5
    have H1:(some (0,0))=some (r1,r2):=by rw[if_pos rfl] at H;exact H
    clear H;have H:=H1;clear H1;simp only[Option.some.injEq,Prod.mk.injEq] at H;obtain⟨rfl,rfl⟩:=H;go_wp2;go_ret2;exact⟨zq3,zq5⟩
   ·replace c5:=Bool.eq_false_iff.mpr c5
    subst c5;have H1:(if a0=(-1) then (if a1=(-9223372036854775808) then (r01_Mul.j1 kj2 a0 a1 true) else (if a1=(-1) then (r01_Mul.j1 kj2 a0 a1 (a0 == (-9223372036854775808))) else (r01_Mul.j1 kj2 a0 a1 false))) else (if a1=(-1) then (r01_Mul.j1 kj2 a0 a1 (a0 == (-9223372036854775808))) else (r01_Mul.j1 kj2 a0 a1 false)))=some (r1,r2):=by rw[if_neg (show ¬ (false=true) by decide)] at H;exact H
    clear H;have H:=H1;clear H1;have HC6:=Aside0.mk H;clear H
    go_upto_region 3 with (fail)
    go_cut [26] (fun v26 wc=>∃ (kq:Nat) (x26_5:Bool),v26 = .bool x26_5/\Aside0 (r01_Mul.j1 kq a0 a1 x26_5=some (r1,r2))/\Aside0 (kq<=kj2)/\Drawn0 w wc)
    case first =>
     have H:=HC6.out;clear HC6
     by_cases c7:a0=(-1)
     ·rw[if_pos c7] at H
      have c7b0:(a0 == (-1))=true:=beq_iff_eq.mpr c7;have c7b1:(a0 != (-1))=false:=bne_eq_false_iff_eq.mpr c7;clear c7
      (first | rw[c7b0] | (simp only[i64_w,i32_w];rw[c7b0]) | skip)
      by_cases c8:a1=(-9223372036854775808)
      ·rw[if_pos c8] at H
       have c8b0:(a1 == (-9223372036854775808))=true:=beq_iff_eq.mpr c8;have c8b1:(a1 != (-9223372036854775808))=false:=bne_eq_false_iff_eq.mpr c8;clear c8;have H':=Aside0.mk H;clear H;go_wp2
       go_meet
       case rel=>exact⟨_,(true),zq3,H',⟨by have:=HJ2.out;first | omega | exact Nat.le_refl _⟩,zq5⟩
      ·rw[if_neg c8] at H
       have c8b0:(a1 == (-9223372036854775808))=false:=BNM c8;have c8b1:(a1 != (-9223372036854775808))=true:=bne_iff_ne.mpr c8
       by_cases c9:a1=(-1)
       ·rw[if_pos c9] at H
        have c9b0:(a1 == (-1))=true:=beq_iff_eq.mpr c9;have c9b1:(a1 != (-1))=false:=bne_eq_false_iff_eq.mpr c9;clear c9;have H':=Aside0.mk H;clear H;go_wp2
        go_meet
        case rel=>exact⟨_,((a0 == (-9223372036854775808))),zq3,H',⟨by have:=HJ2.out;first | omega | exact Nat.le_refl _⟩,zq5⟩
       ·rw[if_neg c9] at H
        have c9b0:(a1 == (-1))=false:=BNM c9;have c9b1:(a1 != (-1))=true:=bne_iff_ne.mpr c9;have H':=Aside0.mk H;clear H;go_wp2
        go_meet
        case rel=>exact⟨_,(false),zq3,H',⟨by have:=HJ2.out;first | omega | exact Nat.le_refl _⟩,zq5⟩
     ·rw[if_neg c7] at H
      have c7b0:(a0 == (-1))=false:=BNM c7;have c7b1:(a0 != (-1))=true:=bne_iff_ne.mpr c7
      (first | rw[c7b0] | (simp only[i64_w,i32_w];rw[c7b0]) | skip)
      by_cases c10:a1=(-1)
      ·rw[if_pos c10] at H
       have c10b0:(a1 == (-1))=true:=beq_iff_eq.mpr c10;have c10b1:(a1 != (-1))=false:=bne_eq_false_iff_eq.mpr c10;clear c10;have H':=Aside0.mk H;clear H;go_wp2
       go_meet
       case rel=>exact⟨_,((a0 == (-9223372036854775808))),zq3,H',⟨by have:=HJ2.out;first | omega | exact Nat.le_refl _⟩,zq5⟩
      ·rw[if_neg c10] at H
       have c10b0:(a1 == (-1))=false:=BNM c10;have c10b1:(a1 != (-1))=true:=bne_iff_ne.mpr c10;have H':=Aside0.mk H;clear H;go_wp2
       go_meet
       case rel=>exact⟨_,(false),zq3,H',⟨by have:=HJ2.out;first | omega | exact Nat.le_refl _⟩,zq5⟩
    case rest =>
     clear HC6
     try clear c1
     try clear c2
     try clear p2
     try clear c4
     try clear c4b0
     try clear c4b1
     try clear c5
     try clear c7
     try clear c7b0
     try clear c7b1
     try clear c8
     try clear c8b0
     try clear c8b1
     try clear c9
     try clear c9b0
     try clear c9b1
     try clear c10
     try clear c10b0
     try clear c10b1
     try clear p2
     obtain⟨kq,x26_5,rfl,HA,HJ5,⟨mc5,rfl⟩⟩:=hcut;cases kq with
     | zero=>exact absurd HA.out (by simp[r01_Mul.j1])
     | succ kj5 =>
      have H:=HA.out;clear HA;simp only[r01_Mul.j1] at H
      by_cases c11:x26_5=true
      ·subst c11
       have H1:(some (0,10))=some (r1,r2):=by rw[if_pos rfl] at H;exact H
       clear H;have H:=H1;clear H1;simp only[Option.some.injEq,Prod.mk.injEq] at H;obtain⟨rfl,rfl⟩:=H;go_wp2;go_ret2;exact⟨zq3,zq5⟩
      ·replace c11:=Bool.eq_false_iff.mpr c11
       subst c11;have H1:(if a1=0 then (none) else (if (wrap64 (Int.tdiv (wrap64 (a0*a1)) a1))=a0 then (some (wrap64 (a0*a1),0)) else (some (0,10))))=some (r1,r2):=by rw[if_neg (show ¬ (false=true) by decide)] at H;exact H
       clear H;have H:=H1;clear H1
       by_cases c12:a1=0
       ·rw[if_pos c12] at H
        exact absurd H zq30
       ·rw[if_neg c12] at H
        have c12b0:(a1 == 0)=false:=BNM c12;have c12b1:(a1 != 0)=true:=bne_iff_ne.mpr c12
        by_cases c13:(wrap64 (Int.tdiv (wrap64 (a0*a1)) a1))=a0
        ·rw[if_pos c13] at H
         have c13b0:((wrap64 (Int.tdiv (wrap64 (a0*a1)) a1)) == a0)=true:=beq_iff_eq.mpr c13;have c13b1:((wrap64 (Int.tdiv (wrap64 (a0*a1)) a1)) != a0)=false:=bne_eq_false_iff_eq.mpr c13;clear c13;simp only[Option.some.injEq,Prod.mk.injEq] at H;obtain⟨rfl,rfl⟩:=H;go_wp2;go_ret2;exact⟨zq3,zq5⟩
        ·rw[if_neg c13] at H
         have c13b0:((wrap64 (Int.tdiv (wrap64 (a0*a1)) a1)) == a0)=false:=BNM c13;have c13b1:((wrap64 (Int.tdiv (wrap64 (a0*a1)) a1)) != a0)=true:=bne_iff_ne.mpr c13;simp only[Option.some.injEq,Prod.mk.injEq] at H;obtain⟨rfl,rfl⟩:=H;go_wp2;go_ret2;exact⟨zq3,zq5⟩
def r01_Quo.f (a0:Int) (a1:Int):Option (Int × Int):=if a1=0 then (some (0,11)) else (if a0=(-9223372036854775808) then (if a1=(-1) then (some (0,10)) else (some (wrap64 (Int.tdiv a0 a1),0))) else (some (wrap64 (Int.tdiv a0 a1),0)))
theorem r01_Quo.calls (a0:Int) (a1:Int) (r1:Int) (r2:Int) (w:World) (h:r01_Quo.f a0 a1=some (r1,r2)) :
  Calls Tryz.prog 176 #[.int .i64 a0,.int .i64 a1] w fun e w'=>e = .returned (.tuple #[.int .i64 r1,.int .i64 r2])/\Drawn0 w w':=by
 have H:(if a1=0 then (some (0,11)) else (if a0=(-9223372036854775808) then (if a1=(-1) then (some (0,10)) else (some (wrap64 (Int.tdiv a0 a1),0))) else (some (wrap64 (Int.tdiv a0 a1),0))))=some (r1,r2):=h;clear h
 by_cases c3:a1=0
 ·rw[if_pos c3] at H
  have c3b0:(a1 == 0)=true:=beq_iff_eq.mpr c3;have c3b1:(a1 != 0)=false:=bne_eq_false_iff_eq.mpr c3;clear c3;simp only[Option.some.injEq,Prod.mk.injEq] at H;obtain⟨rfl,rfl⟩:=H;go_enter Tryz.func176,Tryz.ntmps176;go_wp2;go_ret2;exact⟨zq3,zq5⟩
 ·rw[if_neg c3] at H
  have c3b0:(a1 == 0)=false:=BNM c3;have c3b1:(a1 != 0)=true:=bne_iff_ne.mpr c3
  by_cases c4:a0=(-9223372036854775808)
  ·rw[if_pos c4] at H
   have c4b0:(a0 == (-9223372036854775808))=true:=beq_iff_eq.mpr c4;have c4b1:(a0 != (-9223372036854775808))=false:=bne_eq_false_iff_eq.mpr c4;clear c4
   by_cases c5:a1=(-1)
   ·rw[if_pos c5] at H
    have c5b0:(a1 == (-1))=true:=beq_iff_eq.mpr c5;have c5b1:(a1 != (-1))=false:=bne_eq_false_iff_eq.mpr c5;clear c5;simp only[Option.some.injEq,Prod.mk.injEq] at H;obtain⟨rfl,rfl⟩:=H;go_enter Tryz.func176,Tryz.ntmps176;go_wp2;go_ret2;exact⟨zq3,zq5⟩
   ·rw[if_neg c5] at H
    have c5b0:(a1 == (-1))=false:=BNM c5;have c5b1:(a1 != (-1))=true:=bne_iff_ne.mpr c5;simp only[Option.some.injEq,Prod.mk.injEq] at H;obtain⟨rfl,rfl⟩:=H;go_enter Tryz.func176,Tryz.ntmps176;go_wp2;go_ret2;exact⟨zq3,zq5⟩
  ·rw[if_neg c4] at H
   have c4b0:(a0 == (-9223372036854775808))=false:=BNM c4;have c4b1:(a0 != (-9223372036854775808))=true:=bne_iff_ne.mpr c4;simp only[Option.some.injEq,Prod.mk.injEq] at H;obtain⟨rfl,rfl⟩:=H;go_enter Tryz.func176,Tryz.ntmps176;go_wp2;go_ret2;exact⟨zq3,zq5⟩
def r01_Rem.f (a0:Int) (a1:Int):Option (Int × Int):=if a1=0 then (some (0,11)) else (if a1=(-1) then (some (0,0)) else (some (Int.tmod a0 a1,0)))
theorem r01_Rem.calls (a0:Int) (a1:Int) (r1:Int) (r2:Int) (w:World) (h:r01_Rem.f a0 a1=some (r1,r2)) :
  Calls Tryz.prog 177 #[.int .i64 a0,.int .i64 a1] w fun e w'=>e = .returned (.tuple #[.int .i64 r1,.int .i64 r2])/\Drawn0 w w':=by
 have H:(if a1=0 then (some (0,11)) else (if a1=(-1) then (some (0,0)) else (some (Int.tmod a0 a1,0))))=some (r1,r2):=h;clear h
 by_cases c3:a1=0
 ·rw[if_pos c3] at H
  have c3b0:(a1 == 0)=true:=beq_iff_eq.mpr c3;have c3b1:(a1 != 0)=false:=bne_eq_false_iff_eq.mpr c3;clear c3;simp only[Option.some.injEq,Prod.mk.injEq] at H;obtain⟨rfl,rfl⟩:=H;go_enter Tryz.func177,Tryz.ntmps177;go_wp2;go_ret2;exact⟨zq3,zq5⟩
 ·rw[if_neg c3] at H
  have c3b0:(a1 == 0)=false:=BNM c3;have c3b1:(a1 != 0)=true:=bne_iff_ne.mpr c3
  by_cases c4:a1=(-1)
  ·rw[if_pos c4] at H
   have c4b0:(a1 == (-1))=true:=beq_iff_eq.mpr c4;have c4b1:(a1 != (-1))=false:=bne_eq_false_iff_eq.mpr c4;clear c4;simp only[Option.some.injEq,Prod.mk.injEq] at H;obtain⟨rfl,rfl⟩:=H;go_enter Tryz.func177,Tryz.ntmps177;go_wp2;go_ret2;exact⟨zq3,zq5⟩
  ·rw[if_neg c4] at H
   have c4b0:(a1 == (-1))=false:=BNM c4;have c4b1:(a1 != (-1))=true:=bne_iff_ne.mpr c4;simp only[Option.some.injEq,Prod.mk.injEq] at H;obtain⟨rfl,rfl⟩:=H;go_enter Tryz.func177,Tryz.ntmps177;go_wp2;go_ret2;exact⟨zq3,zq5⟩
attribute [local go_sem] max2_int min2_int max_two min_two max_three min_three max_four min_four
theorem ref_truth (b:Bool) (w:World):Calls Tryz.prog 170 #[.bool b] w fun e w'=>e = .returned (.tuple #[.agg #[.int .i64 1,.int .i64 (tv b),.string ⟨#[]⟩],.int .i64 0])/\Below w.heap.size w w':=by
 refine r18_truth.calls b 1 (tv b) ⟨#[]⟩ 0 w ?_;cases b <;> rfl
def numR (r:Int × Int):Int × Int × ByteArray × Int:=if r.2=0 then (1,r.1,⟨#[]⟩,0) else (0,0,⟨#[]⟩,r.2)
theorem ref_number (n e:Int) (w:World):Calls Tryz.prog 172 #[.int .i64 n,.int .i64 e] w fun x w'=>x = .returned (.tuple #[.agg #[.int .i64 (numR (n,e)).1,.int .i64 (numR (n,e)).2.1,.string (numR (n,e)).2.2.1],.int .i64 (numR (n,e)).2.2.2])/\Below w.heap.size w w':=by
 refine r18_number.calls n e _ _ _ _ w ?_;unfold r18_number.f numR
 by_cases h:e=0
 ·rw[if_pos h,if_pos h];rfl
 ·rw[if_neg h,if_neg h]
theorem ref_text (t:ByteArray) (w:World):Calls Tryz.prog 171 #[.string t] w fun e w'=>e = .returned (.agg #[.int .i64 2,.int .i64 0,.string t])/\Below w.heap.size w w' :=
 r05_Text.calls t 2 0 t w rfl
def OutV (r:Int × Int × ByteArray × Int) (e:Ending):Prop:=e = .returned (.tuple #[.agg #[.int .i64 r.1,.int .i64 r.2.1,.string r.2.2.1],.int .i64 r.2.2.2])
theorem below3 {w:World} (o1 o2 o3:Obj):Below w.heap.size w (((w.alloc o1).alloc o2).alloc o3) :=
 (((Below.refl _ _).alloc (Nat.le_refl _) _).alloc zq30 _).alloc zq33 _
theorem below_set3 {B:Nat} {w w':World} (h:Below B w w') (g:Nat) (hg:B<=g) (v0 v1 v2:Value):Below B w (((w'.setCell ⟨g,0,none⟩ v0).setCell ⟨g,1,none⟩ v1).setCell ⟨g,2,none⟩ v2) :=
 ((h.setCell (p:=⟨g,0,none⟩) hg _).setCell (p:=⟨g,1,none⟩) hg _).setCell (p:=⟨g,2,none⟩) hg _
theorem two_kind (c a0 a1 b0 b1:Int) (a2 b2:ByteArray) (w:World) (h:(a0 != b0)=true) :
  Calls Tryz.prog 158 #[.int .i64 c,.agg #[.int .i64 a0,.int .i64 a1,.string a2],.agg #[.int .i64 b0,.int .i64 b1,.string b2]] w fun e w'=>OutV (0,0,⟨#[]⟩,12) e/\Below w.heap.size w w':=by
 go_enter Tryz.func158,Tryz.ntmps158;go_wp2;exact bodyPost_ret (v:=.tuple #[.agg #[.int .i64 0,.int .i64 0,.string ⟨#[]⟩],.int .i64 12]) (by simp[results,Tryz.results158,go_sem]) rfl ⟨rfl,below3 _ _ _⟩
theorem below_dn {w1 w3:World} {nd:Nat} (h:Below (w1.drewN nd).heap.size (w1.drewN nd) w3):Below w1.heap.size w1 w3:=(pw_below_drewN (Below.refl _ w1) nd).trans h
structure Bx (g:Nat) (w:World) (x0 x1 x2:Value):Prop where
 c0:w.cell? ⟨g,0,none⟩=some x0
 c1:w.cell? ⟨g,1,none⟩=some x1
 c2:w.cell? ⟨g,2,none⟩=some x2
 z0:w.frozen? ⟨g,0,none⟩=false
 z1:w.frozen? ⟨g,1,none⟩=false
 z2:w.frozen? ⟨g,2,none⟩=false
 lt:g<w.heap.size
theorem Bx.below {g:Nat} {w w':World} {x0 x1 x2:Value} (h:Bx g w x0 x1 x2) (hb:Below w.heap.size w w'):Bx g w' x0 x1 x2:=by
 obtain⟨c0,c1,c2,z0,z1,z2,lt⟩:=h;obtain⟨hh,hz⟩:=g_bcell hb;exact⟨(hh _ _ lt).trans c0,(hh _ _ lt).trans c1,(hh _ _ lt).trans c2,(hz _ _ lt).trans z0,(hz _ _ lt).trans z1,(hz _ _ lt).trans z2,Nat.lt_of_lt_of_le lt hb.size⟩
theorem bx3 (w:World) (x0 x1 x2 y0 y1 y2 z0 z1 z2:Value) (t1 t2 t3:TypeId) (W:World) (hW:((w.alloc (Obj.cells #[x0,x1,x2] t1)).alloc (Obj.cells #[y0,y1,y2] t2)).alloc (Obj.cells #[z0,z1,z2] t3)=W) :
  Bx w.heap.size W x0 x1 x2/\Bx (w.heap.size+1) W y0 y1 y2/\Bx (w.heap.size+1+1) W z0 z1 z2:=by
 subst hW;refine⟨⟨?_,?_,?_,?_,?_,?_,?_⟩,⟨?_,?_,?_,?_,?_,?_,?_⟩,⟨?_,?_,?_,?_,?_,?_,?_⟩⟩
 all_goals first | (simp[go_sem];done) | (simp;omega)
abbrev CmpC (a0 a1:Int) (a2:ByteArray) (b0 b1:Int) (b2:ByteArray) (n:Int):Prop := ∀ w,Calls Tryz.prog 128 #[.agg #[.int .i64 a0,.int .i64 a1,.string a2],.agg #[.int .i64 b0,.int .i64 b1,.string b2]] w fun e w'=>e = .returned (.int .i64 n)/\Below w.heap.size w w'
def CmpIs (c n:Int) (b:Bool):Prop:=(c=13/\(n == 0)=b)\/(c=14/\(n != 0)=b)\/(c=15/\decide (n<0)=b)\/(c=16/\decide (n<=0)=b)\/(c=17/\decide (0<n)=b)\/(c=18/\decide (0<=n)=b)
theorem two_cmp (c a0 a1 b0 b1 n:Int) (a2 b2:ByteArray) (w:World) (b:Bool) (h:(a0 != b0)=false) (HC:Hid (CmpC a0 a1 a2 b0 b1 b2 n)) (hn:CmpIs c n b) :
  Calls Tryz.prog 158 #[.int .i64 c,.agg #[.int .i64 a0,.int .i64 a1,.string a2],.agg #[.int .i64 b0,.int .i64 b1,.string b2]] w fun e w'=>OutV (1,tv b,⟨#[]⟩,0) e/\Below w.heap.size w w':=by
 cases b
 ·rcases hn with ⟨rfl,hn⟩ | ⟨rfl,hn⟩ | ⟨rfl,hn⟩ | ⟨rfl,hn⟩ | ⟨rfl,hn⟩ | ⟨rfl,hn⟩
  all_goals
   go_enter Tryz.func158,Tryz.ntmps158
   go_wp2_with (first
    | (go_at_call 128;((with_reducible refine (HC.out _).mono ?_);rintro e w1 ⟨rfl,hb1⟩;obtain⟨bA,bB,bR⟩:=bx3 w _ _ _ _ _ _ _ _ _ _ _ _ _ rfl;obtain⟨pa0,pa1,pa2,qa0,qa1,qa2,_⟩:=bA.below hb1;obtain⟨pb0,pb1,pb2,qb0,qb1,qb2,_⟩:=bB.below hb1;replace bR:=Hd (bR.below hb1);obtain⟨pr0,pr1,pr2,qr0,qr1,qr2,_⟩:=bR.out;clear bA bB;replace hb1:=Hd ((below3 _ _ _).trans (hb1.mono zq33))))
    | (go_at_call 170;((with_reducible refine (ref_truth _ _).mono ?_);rintro e w2 ⟨rfl,hb2⟩;clear pr0 pr1 pr2 qr0 qr1 qr2;obtain⟨pr0,pr1,pr2,qr0,qr1,qr2,_⟩:=bR.out.below hb2;replace hb2:=Hd (g_bel hb1.out hb2))))
   exact bodyPost_ret (v:=.tuple #[.agg #[.int .i64 1,.int .i64 (tv false),.string ⟨#[]⟩],.int .i64 0]) zq54 rfl ⟨rfl,below_set3 hb2.out _ zq4 _ _ _⟩
 ·rcases hn with ⟨rfl,hn⟩ | ⟨rfl,hn⟩ | ⟨rfl,hn⟩ | ⟨rfl,hn⟩ | ⟨rfl,hn⟩ | ⟨rfl,hn⟩
  all_goals
   go_enter Tryz.func158,Tryz.ntmps158
   go_wp2_with (first
    | (go_at_call 128;((with_reducible refine (HC.out _).mono ?_);rintro e w1 ⟨rfl,hb1⟩;obtain⟨bA,bB,bR⟩:=bx3 w _ _ _ _ _ _ _ _ _ _ _ _ _ rfl;obtain⟨pa0,pa1,pa2,qa0,qa1,qa2,_⟩:=bA.below hb1;obtain⟨pb0,pb1,pb2,qb0,qb1,qb2,_⟩:=bB.below hb1;replace bR:=Hd (bR.below hb1);obtain⟨pr0,pr1,pr2,qr0,qr1,qr2,_⟩:=bR.out;clear bA bB;replace hb1:=Hd ((below3 _ _ _).trans (hb1.mono zq33))))
    | (go_at_call 170;((with_reducible refine (ref_truth _ _).mono ?_);rintro e w2 ⟨rfl,hb2⟩;clear pr0 pr1 pr2 qr0 qr1 qr2;obtain⟨pr0,pr1,pr2,qr0,qr1,qr2,_⟩:=bR.out.below hb2;replace hb2:=Hd (g_bel hb1.out hb2))))
   exact bodyPost_ret (v:=.tuple #[.agg #[.int .i64 1,.int .i64 (tv true),.string ⟨#[]⟩],.int .i64 0]) zq54 rfl ⟨rfl,below_set3 hb2.out _ zq4 _ _ _⟩
theorem two_mixed (c a0 a1 b0 b1 n:Int) (a2 b2:ByteArray) (w:World) (p q:Bool) (h:(a0 != b0)=false) (HC:Hid (CmpC a0 a1 a2 b0 b1 b2 n)) (hr:decide (c >= 13)=false\/decide (c >= 13)=true/\decide (c<=18)=false) (hp:(c == 12)=p) (hq:(a0 == 2)=q) (hpq:(p=true/\q=false)\/(p=false/\q=true)) :
  Calls Tryz.prog 158 #[.int .i64 c,.agg #[.int .i64 a0,.int .i64 a1,.string a2],.agg #[.int .i64 b0,.int .i64 b1,.string b2]] w fun e w'=>OutV (0,0,⟨#[]⟩,12) e/\Below w.heap.size w w':=by
 rcases hpq with ⟨rfl,rfl⟩ | ⟨rfl,rfl⟩
 all_goals
  rcases hr with hr | ⟨hr,hr2⟩
  all_goals
   go_enter Tryz.func158,Tryz.ntmps158
   go_wp2_with ((go_at_call 128;((with_reducible refine (HC.out _).mono ?_);rintro e w1 ⟨rfl,hb1⟩;obtain⟨bA,bB,bR⟩:=bx3 w _ _ _ _ _ _ _ _ _ _ _ _ _ rfl;obtain⟨pa0,pa1,pa2,qa0,qa1,qa2,_⟩:=bA.below hb1;obtain⟨pb0,pb1,pb2,qb0,qb1,qb2,_⟩:=bB.below hb1;replace bR:=Hd (bR.below hb1);obtain⟨pr0,pr1,pr2,qr0,qr1,qr2,_⟩:=bR.out;clear bA bB;replace hb1:=Hd ((below3 _ _ _).trans (hb1.mono zq33)))))
   exact bodyPost_ret (v:=.tuple #[.agg #[.int .i64 0,.int .i64 0,.string ⟨#[]⟩],.int .i64 12]) zq54 rfl ⟨rfl,below_set3 hb1.out _ zq4 _ _ _⟩
theorem two_cat (a1 b1 n:Int) (a2 b2:ByteArray) (w:World) (HC:Hid (CmpC 2 a1 a2 2 b1 b2 n)) (hl:decide ((a2.size:Int)+(b2.size:Int) > 64)=false) (hsz:¬ 9223372036854775807<a2.size+b2.size) :
  Calls Tryz.prog 158 #[.int .i64 12,.agg #[.int .i64 2,.int .i64 a1,.string a2],.agg #[.int .i64 2,.int .i64 b1,.string b2]] w fun e w'=>OutV (2,0,a2 ++ b2,0) e/\Below w.heap.size w w':=by
 go_enter Tryz.func158,Tryz.ntmps158
 go_wp2_with (first
  | (go_at_call 128;((with_reducible refine (HC.out _).mono ?_);rintro e w1 ⟨rfl,hb1⟩;obtain⟨bA,bB,bR⟩:=bx3 w _ _ _ _ _ _ _ _ _ _ _ _ _ rfl;obtain⟨pa0,pa1,pa2,qa0,qa1,qa2,_⟩:=bA.below hb1;obtain⟨pb0,pb1,pb2,qb0,qb1,qb2,_⟩:=bB.below hb1;replace bR:=Hd (bR.below hb1);obtain⟨pr0,pr1,pr2,qr0,qr1,qr2,_⟩:=bR.out;clear bA bB;replace hb1:=Hd ((below3 _ _ _).trans (hb1.mono zq33))))
  | (go_at_call 171;((with_reducible refine (ref_text _ _).mono ?_);rintro e w2 ⟨rfl,hb2⟩;clear pr0 pr1 pr2 qr0 qr1 qr2;obtain⟨pr0,pr1,pr2,qr0,qr1,qr2,_⟩:=bR.out.below hb2;replace hb2:=Hd (g_bel hb1.out hb2))))
 all_goals first | (exfalso;exact hsz (by assumption)) | (exact bodyPost_ret (v:=.tuple #[.agg #[.int .i64 2,.int .i64 0,.string (a2 ++ b2)],.int .i64 0]) zq54 rfl ⟨rfl,below_set3 hb2.out _ zq4 _ _ _⟩)
theorem two_long (a1 b1 n:Int) (a2 b2:ByteArray) (w:World) (HC:Hid (CmpC 2 a1 a2 2 b1 b2 n)) (hl:decide ((a2.size:Int)+(b2.size:Int) > 64)=true) (hsz:¬ 9223372036854775807<a2.size+b2.size) :
  Calls Tryz.prog 158 #[.int .i64 12,.agg #[.int .i64 2,.int .i64 a1,.string a2],.agg #[.int .i64 2,.int .i64 b1,.string b2]] w fun e w'=>OutV (0,0,⟨#[]⟩,6) e/\Below w.heap.size w w':=by
 go_enter Tryz.func158,Tryz.ntmps158
 go_wp2_with ((go_at_call 128;((with_reducible refine (HC.out _).mono ?_);rintro e w1 ⟨rfl,hb1⟩;obtain⟨bA,bB,bR⟩:=bx3 w _ _ _ _ _ _ _ _ _ _ _ _ _ rfl;obtain⟨pa0,pa1,pa2,qa0,qa1,qa2,_⟩:=bA.below hb1;obtain⟨pb0,pb1,pb2,qb0,qb1,qb2,_⟩:=bB.below hb1;replace bR:=Hd (bR.below hb1);obtain⟨pr0,pr1,pr2,qr0,qr1,qr2,_⟩:=bR.out;clear bA bB;replace hb1:=Hd ((below3 _ _ _).trans (hb1.mono zq33)))))
 exact bodyPost_ret (v:=.tuple #[.agg #[.int .i64 0,.int .i64 0,.string ⟨#[]⟩],.int .i64 6]) zq54 rfl ⟨rfl,below_set3 hb1.out _ zq4 _ _ _⟩
theorem two_andor (c a0 a1 b0 b1 n:Int) (a2 b2:ByteArray) (w:World) (x:Bool) (h:(a0 != b0)=false) (HC:Hid (CmpC a0 a1 a2 b0 b1 b2 n)) (hq:(a0 == 2)=false) (hx:c=19/\((a1 != 0)=false/\x=false\/(a1 != 0)=true/\(b1 != 0)=x)\/c=20/\((a1 != 0)=true/\x=true\/(a1 != 0)=false/\(b1 != 0)=x)) :
  Calls Tryz.prog 158 #[.int .i64 c,.agg #[.int .i64 a0,.int .i64 a1,.string a2],.agg #[.int .i64 b0,.int .i64 b1,.string b2]] w fun e w'=>OutV (1,tv x,⟨#[]⟩,0) e/\Below w.heap.size w w':=by
 rcases hx with ⟨rfl,⟨hx,rfl⟩ | ⟨hx,hy⟩⟩ | ⟨rfl,⟨hx,rfl⟩ | ⟨hx,hy⟩⟩
 ·go_enter Tryz.func158,Tryz.ntmps158
  go_wp2_with (first
   | (go_at_call 128;((with_reducible refine (HC.out _).mono ?_);rintro e w1 ⟨rfl,hb1⟩;obtain⟨bA,bB,bR⟩:=bx3 w _ _ _ _ _ _ _ _ _ _ _ _ _ rfl;obtain⟨pa0,pa1,pa2,qa0,qa1,qa2,_⟩:=bA.below hb1;obtain⟨pb0,pb1,pb2,qb0,qb1,qb2,_⟩:=bB.below hb1;replace bR:=Hd (bR.below hb1);obtain⟨pr0,pr1,pr2,qr0,qr1,qr2,_⟩:=bR.out;clear bA bB;replace hb1:=Hd ((below3 _ _ _).trans (hb1.mono zq33))))
   | (go_at_call 170;((with_reducible refine (ref_truth _ _).mono ?_);rintro e w2 ⟨rfl,hb2⟩;clear pr0 pr1 pr2 qr0 qr1 qr2;obtain⟨pr0,pr1,pr2,qr0,qr1,qr2,_⟩:=bR.out.below hb2;replace hb2:=Hd (g_bel hb1.out hb2))))
  all_goals first | (exact bodyPost_ret (v:=.tuple #[.agg #[.int .i64 1,.int .i64 (tv false),.string ⟨#[]⟩],.int .i64 0]) zq54 rfl ⟨rfl,below_set3 hb2.out _ zq4 _ _ _⟩)
 ·go_enter Tryz.func158,Tryz.ntmps158
  go_wp2_with (first
   | (go_at_call 128;((with_reducible refine (HC.out _).mono ?_);rintro e w1 ⟨rfl,hb1⟩;obtain⟨bA,bB,bR⟩:=bx3 w _ _ _ _ _ _ _ _ _ _ _ _ _ rfl;obtain⟨pa0,pa1,pa2,qa0,qa1,qa2,_⟩:=bA.below hb1;obtain⟨pb0,pb1,pb2,qb0,qb1,qb2,_⟩:=bB.below hb1;replace bR:=Hd (bR.below hb1);obtain⟨pr0,pr1,pr2,qr0,qr1,qr2,_⟩:=bR.out;clear bA bB;replace hb1:=Hd ((below3 _ _ _).trans (hb1.mono zq33))))
   | (go_at_call 170;((with_reducible refine (ref_truth _ _).mono ?_);rintro e w2 ⟨rfl,hb2⟩;clear pr0 pr1 pr2 qr0 qr1 qr2;obtain⟨pr0,pr1,pr2,qr0,qr1,qr2,_⟩:=bR.out.below hb2;replace hb2:=Hd (g_bel hb1.out hb2))))
  all_goals first | (exact bodyPost_ret (v:=.tuple #[.agg #[.int .i64 1,.int .i64 (tv x),.string ⟨#[]⟩],.int .i64 0]) zq54 rfl ⟨rfl,below_set3 hb2.out _ zq4 _ _ _⟩)
 ·go_enter Tryz.func158,Tryz.ntmps158
  go_wp2_with (first
   | (go_at_call 128;((with_reducible refine (HC.out _).mono ?_);rintro e w1 ⟨rfl,hb1⟩;obtain⟨bA,bB,bR⟩:=bx3 w _ _ _ _ _ _ _ _ _ _ _ _ _ rfl;obtain⟨pa0,pa1,pa2,qa0,qa1,qa2,_⟩:=bA.below hb1;obtain⟨pb0,pb1,pb2,qb0,qb1,qb2,_⟩:=bB.below hb1;replace bR:=Hd (bR.below hb1);obtain⟨pr0,pr1,pr2,qr0,qr1,qr2,_⟩:=bR.out;clear bA bB;replace hb1:=Hd ((below3 _ _ _).trans (hb1.mono zq33))))
   | (go_at_call 170;((with_reducible refine (ref_truth _ _).mono ?_);rintro e w2 ⟨rfl,hb2⟩;clear pr0 pr1 pr2 qr0 qr1 qr2;obtain⟨pr0,pr1,pr2,qr0,qr1,qr2,_⟩:=bR.out.below hb2;replace hb2:=Hd (g_bel hb1.out hb2))))
  all_goals first | (exact bodyPost_ret (v:=.tuple #[.agg #[.int .i64 1,.int .i64 (tv true),.string ⟨#[]⟩],.int .i64 0]) zq54 rfl ⟨rfl,below_set3 hb2.out _ zq4 _ _ _⟩)
 ·go_enter Tryz.func158,Tryz.ntmps158
  go_wp2_with (first
   | (go_at_call 128;((with_reducible refine (HC.out _).mono ?_);rintro e w1 ⟨rfl,hb1⟩;obtain⟨bA,bB,bR⟩:=bx3 w _ _ _ _ _ _ _ _ _ _ _ _ _ rfl;obtain⟨pa0,pa1,pa2,qa0,qa1,qa2,_⟩:=bA.below hb1;obtain⟨pb0,pb1,pb2,qb0,qb1,qb2,_⟩:=bB.below hb1;replace bR:=Hd (bR.below hb1);obtain⟨pr0,pr1,pr2,qr0,qr1,qr2,_⟩:=bR.out;clear bA bB;replace hb1:=Hd ((below3 _ _ _).trans (hb1.mono zq33))))
   | (go_at_call 170;((with_reducible refine (ref_truth _ _).mono ?_);rintro e w2 ⟨rfl,hb2⟩;clear pr0 pr1 pr2 qr0 qr1 qr2;obtain⟨pr0,pr1,pr2,qr0,qr1,qr2,_⟩:=bR.out.below hb2;replace hb2:=Hd (g_bel hb1.out hb2))))
  all_goals first | (exact bodyPost_ret (v:=.tuple #[.agg #[.int .i64 1,.int .i64 (tv x),.string ⟨#[]⟩],.int .i64 0]) zq54 rfl ⟨rfl,below_set3 hb2.out _ zq4 _ _ _⟩)
theorem two_nums (c a0 a1 b0 b1 n:Int) (a2 b2:ByteArray) (r:Int × Int) (fn:Nat) (w:World) (h:(a0 != b0)=false) (HC:Hid (CmpC a0 a1 a2 b0 b1 b2 n)) (hq:(a0 == 2)=false)
  (NC:Hid (∀ w,Calls Tryz.prog fn #[.int .i64 a1,.int .i64 b1] w fun e w'=>e = .returned (.tuple #[.int .i64 r.1,.int .i64 r.2])/\Drawn0 w w'))
  (hc:c=7/\fn=173\/c=8/\fn=174\/c=9/\fn=175\/c=10/\fn=176) :
  Calls Tryz.prog 158 #[.int .i64 c,.agg #[.int .i64 a0,.int .i64 a1,.string a2],.agg #[.int .i64 b0,.int .i64 b1,.string b2]] w fun e w'=>OutV (numR r) e/\Below w.heap.size w w':=by
 obtain⟨r1,r2⟩:=r
 rcases hc with ⟨rfl,rfl⟩ | ⟨rfl,rfl⟩ | ⟨rfl,rfl⟩ | ⟨rfl,rfl⟩
 all_goals
  go_enter Tryz.func158,Tryz.ntmps158
  go_wp2_with (first
   | (go_at_call 128;((with_reducible refine (HC.out _).mono ?_);rintro e w1 ⟨rfl,hb1⟩;obtain⟨bA,bB,bR⟩:=bx3 w _ _ _ _ _ _ _ _ _ _ _ _ _ rfl;obtain⟨pa0,pa1,pa2,qa0,qa1,qa2,_⟩:=bA.below hb1;obtain⟨pb0,pb1,pb2,qb0,qb1,qb2,_⟩:=bB.below hb1;replace bR:=Hd (bR.below hb1);obtain⟨pr0,pr1,pr2,qr0,qr1,qr2,_⟩:=bR.out;clear bA bB;replace hb1:=Hd ((below3 _ _ _).trans (hb1.mono zq33))))
   | (go_at_call 172;((with_reducible refine (ref_number _ _ _).mono ?_);rintro e w3 ⟨rfl,hb3⟩;have hb4:=below_dn hb3;clear pr0 pr1 pr2 qr0 qr1 qr2;obtain⟨pr0,pr1,pr2,qr0,qr1,qr2,_⟩:=bR.out.below hb4;replace hb4:=Hd (g_bel hb1.out hb4)))
   | ((with_reducible refine (NC.out _).mono ?_);rintro e w2 ⟨rfl,⟨nd,rfl⟩⟩))
  exact bodyPost_ret (v:=.tuple #[.agg #[.int .i64 (numR (r1,r2)).1,.int .i64 (numR (r1,r2)).2.1,.string (numR (r1,r2)).2.2.1],.int .i64 (numR (r1,r2)).2.2.2]) zq54 rfl ⟨rfl,below_set3 hb4.out _ zq4 _ _ _⟩
theorem two_rem (c a0 a1 b0 b1 n:Int) (a2 b2:ByteArray) (r:Int × Int) (w:World) (h:(a0 != b0)=false) (HC:Hid (CmpC a0 a1 a2 b0 b1 b2 n)) (hq:(a0 == 2)=false) (hr:decide (c >= 13)=false\/decide (c >= 13)=true/\decide (c<=18)=false)
  (NC:Hid (∀ w,Calls Tryz.prog 177 #[.int .i64 a1,.int .i64 b1] w fun e w'=>e = .returned (.tuple #[.int .i64 r.1,.int .i64 r.2])/\Drawn0 w w'))
  (h12:(c == 12)=false) (h19:(c == 19)=false) (h20:(c == 20)=false) (h7:(c == 7)=false) (h8:(c == 8)=false) (h9:(c == 9)=false) (h10:(c == 10)=false) :
  Calls Tryz.prog 158 #[.int .i64 c,.agg #[.int .i64 a0,.int .i64 a1,.string a2],.agg #[.int .i64 b0,.int .i64 b1,.string b2]] w fun e w'=>OutV (numR r) e/\Below w.heap.size w w':=by
 obtain⟨r1,r2⟩:=r
 rcases hr with hr | ⟨hr,hr2⟩
 all_goals
  go_enter Tryz.func158,Tryz.ntmps158
  go_wp2_with (first
   | (go_at_call 128;((with_reducible refine (HC.out _).mono ?_);rintro e w1 ⟨rfl,hb1⟩;obtain⟨bA,bB,bR⟩:=bx3 w _ _ _ _ _ _ _ _ _ _ _ _ _ rfl;obtain⟨pa0,pa1,pa2,qa0,qa1,qa2,_⟩:=bA.below hb1;obtain⟨pb0,pb1,pb2,qb0,qb1,qb2,_⟩:=bB.below hb1;replace bR:=Hd (bR.below hb1);obtain⟨pr0,pr1,pr2,qr0,qr1,qr2,_⟩:=bR.out;clear bA bB;replace hb1:=Hd ((below3 _ _ _).trans (hb1.mono zq33))))
   | (go_at_call 172;((with_reducible refine (ref_number _ _ _).mono ?_);rintro e w3 ⟨rfl,hb3⟩;have hb4:=below_dn hb3;clear pr0 pr1 pr2 qr0 qr1 qr2;obtain⟨pr0,pr1,pr2,qr0,qr1,qr2,_⟩:=bR.out.below hb4;replace hb4:=Hd (g_bel hb1.out hb4)))
   | ((with_reducible refine (NC.out _).mono ?_);rintro e w2 ⟨rfl,⟨nd,rfl⟩⟩))
  exact bodyPost_ret (v:=.tuple #[.agg #[.int .i64 (numR (r1,r2)).1,.int .i64 (numR (r1,r2)).2.1,.string (numR (r1,r2)).2.2.1],.int .i64 (numR (r1,r2)).2.2.2]) zq54 rfl ⟨rfl,below_set3 hb4.out _ zq4 _ _ _⟩
def r18_two.f (k:Nat) (a0:Int) (a1_0:Int) (a1_1:Int) (a1_2:ByteArray) (a2_0:Int) (a2_1:Int) (a2_2:ByteArray):Option (Int × Int × ByteArray × Int) :=
 if a1_0 ≠ a2_0 then some (0,0,⟨#[]⟩,12) else (r05_Compare.f k a1_0 a1_1 a1_2 a2_0 a2_1 a2_2).bind fun n =>
 if 13<=a0/\a0<=18 then some (1,cmpS a0 n,⟨#[]⟩,0) else
 if (a0=12/\a1_0 ≠ 2)\/(a0 ≠ 12/\a1_0=2) then some (0,0,⟨#[]⟩,12) else
 if a0=12 then (if a1_2.size+a2_2.size<=64 then some (2,0,a1_2 ++ a2_2,0) else if a1_2.size+a2_2.size<=4294967296 then some (0,0,⟨#[]⟩,6) else none) else
 if a0=19 then some (1,tv ((a1_1 != 0) && (a2_1 != 0)),⟨#[]⟩,0) else
 if a0=20 then some (1,tv ((a1_1 != 0) || (a2_1 != 0)),⟨#[]⟩,0) else
 if a0=7 then (r01_Add.f a1_1 a2_1).map numR else
 if a0=8 then (r01_Sub.f a1_1 a2_1).map numR else
 if a0=9 then (r01_Mul.f k a1_1 a2_1).map numR else
 if a0=10 then (r01_Quo.f a1_1 a2_1).map numR else (r01_Rem.f a1_1 a2_1).map numR
theorem r18_two.calls (k:Nat) (a0:Int) (a1_0:Int) (a1_1:Int) (a1_2:ByteArray) (a2_0:Int) (a2_1:Int) (a2_2:ByteArray) (r1:Int) (r2:Int) (r3:ByteArray) (r4:Int) (w:World) (h:r18_two.f k a0 a1_0 a1_1 a1_2 a2_0 a2_1 a2_2=some (r1,r2,r3,r4)) :
  Calls Tryz.prog 158 #[.int .i64 a0,.agg #[.int .i64 a1_0,.int .i64 a1_1,.string a1_2],.agg #[.int .i64 a2_0,.int .i64 a2_1,.string a2_2]] w fun e w'=>e = .returned (.tuple #[.agg #[.int .i64 r1,.int .i64 r2,.string r3],.int .i64 r4])/\Below w.heap.size w w':=by
 have main:∀ r,r18_two.f k a0 a1_0 a1_1 a1_2 a2_0 a2_1 a2_2=some r->Calls Tryz.prog 158 #[.int .i64 a0,.agg #[.int .i64 a1_0,.int .i64 a1_1,.string a1_2],.agg #[.int .i64 a2_0,.int .i64 a2_1,.string a2_2]] w fun e w'=>OutV r e/\Below w.heap.size w w':=by
  clear h;intro r h;unfold r18_two.f at h
  split at h
  ·rename_i h1
   obtain rfl:=OSI h;exact two_kind a0 a1_0 a1_1 a2_0 a2_1 a1_2 a2_2 w (bne_iff_ne.2 h1)
  rename_i h1
  have h1:a1_0=a2_0:=Decidable.not_not.1 h1;subst h1;have hne:(a1_0 != a1_0)=false:=by simp
  replace h:=Option.bind_eq_some_iff.1 h;obtain⟨n,hn,h⟩:=h;have HC:=Hd (fun w=>r05_Compare.calls k a1_0 a1_1 a1_2 a1_0 a2_1 a2_2 n w hn);clear hn
  split at h
  ·rename_i h2
   obtain rfl:=OSI h;have:∃ b,CmpIs a0 n b/\cmpS a0 n=tv b:=by
    unfold CmpIs cmpS;have:a0=13\/a0=14\/a0=15\/a0=16\/a0=17\/a0=18:=by omega
    rcases this with rfl | rfl | rfl | rfl | rfl | rfl
    ·exact⟨n == 0,by simp,by simp⟩
    ·exact⟨n != 0,by simp,by simp⟩
    ·exact⟨decide (n<0),by simp,by simp⟩
    ·exact⟨decide (n<=0),by simp,by simp⟩
    ·exact⟨decide (0<n),by simp,by simp⟩
    ·exact⟨decide (0<=n),by simp,by simp⟩
   obtain⟨b,hb,e⟩:=this;rw[e];exact two_cmp a0 a1_0 a1_1 a1_0 a2_1 n a1_2 a2_2 w b hne HC hb
  rename_i h2
  have hr:decide (a0 >= 13)=false\/decide (a0 >= 13)=true/\decide (a0<=18)=false:=by
   by_cases h:a0 >= 13
   ·exact .inr ⟨DET h,DEF (fun h'=>h2 ⟨h,h'⟩)⟩
   ·exact .inl (DEF h)
  split at h
  ·rename_i h3
   obtain rfl:=OSI h;exact two_mixed a0 a1_0 a1_1 a1_0 a2_1 n a1_2 a2_2 w (a0 == 12) (a1_0 == 2) hne HC hr rfl rfl (by
    rcases h3 with ⟨h,h'⟩ | ⟨h,h'⟩
    ·exact .inl ⟨by simpa using h,by simpa using h'⟩
    ·exact .inr ⟨by simpa using h,by simpa using h'⟩)
  rename_i h3
  split at h
  ·rename_i h4
   subst h4;have h5:a1_0=2:=by omega
   subst h5
   split at h
   ·obtain rfl:=OSI h
    exact two_cat a1_1 a2_1 n a1_2 a2_2 w HC (DEF zq4) zq4
   split at h
   ·obtain rfl:=OSI h
    exact two_long a1_1 a2_1 n a1_2 a2_2 w HC (DET zq4) zq4
   ·simp at h
  rename_i h4
  have hq:(a1_0 == 2)=false:=by
   rw[beq_eq_false_iff_ne];intro e;exact h3 (.inr ⟨h4,e⟩)
  split at h
  ·rename_i h5
   obtain rfl:=OSI h;exact two_andor a0 a1_0 a1_1 a1_0 a2_1 n a1_2 a2_2 w _ hne HC hq (.inl ⟨h5,by cases (a1_1 != 0) <;> simp⟩)
  split at h
  ·rename_i h5
   obtain rfl:=OSI h;exact two_andor a0 a1_0 a1_1 a1_0 a2_1 n a1_2 a2_2 w _ hne HC hq (.inr ⟨h5,by cases (a1_1 != 0) <;> simp⟩)
  rename_i h5 h6
  split at h
  ·rename_i h7
   obtain⟨x,hx,rfl⟩:=Option.map_eq_some_iff.1 h;exact two_nums a0 a1_0 a1_1 a1_0 a2_1 n a1_2 a2_2 x _ w hne HC hq (Hd fun w=>r01_Add.calls _ _ x.1 x.2 w hx) (.inl ⟨h7,rfl⟩)
  split at h
  ·rename_i h7
   obtain⟨x,hx,rfl⟩:=Option.map_eq_some_iff.1 h;exact two_nums a0 a1_0 a1_1 a1_0 a2_1 n a1_2 a2_2 x _ w hne HC hq (Hd fun w=>r01_Sub.calls _ _ x.1 x.2 w hx) (.inr (.inl ⟨h7,rfl⟩))
  split at h
  ·rename_i h7
   obtain⟨x,hx,rfl⟩:=Option.map_eq_some_iff.1 h;exact two_nums a0 a1_0 a1_1 a1_0 a2_1 n a1_2 a2_2 x _ w hne HC hq (Hd fun w=>r01_Mul.calls k _ _ x.1 x.2 w hx) (.inr (.inr (.inl ⟨h7,rfl⟩)))
  split at h
  ·rename_i h7
   obtain⟨x,hx,rfl⟩:=Option.map_eq_some_iff.1 h;exact two_nums a0 a1_0 a1_1 a1_0 a2_1 n a1_2 a2_2 x _ w hne HC hq (Hd fun w=>r01_Quo.calls _ _ x.1 x.2 w hx) (.inr (.inr (.inr ⟨h7,rfl⟩)))
  ·rename_i h7 h8 h9 h10
   obtain⟨x,hx,rfl⟩:=Option.map_eq_some_iff.1 h;exact two_rem a0 a1_0 a1_1 a1_0 a2_1 n a1_2 a2_2 x w hne HC hq hr (Hd fun w=>r01_Rem.calls _ _ x.1 x.2 w hx) (beq_eq_false_iff_ne.2 h4) (beq_eq_false_iff_ne.2 h5) (beq_eq_false_iff_ne.2 h6) (beq_eq_false_iff_ne.2 h7) (beq_eq_false_iff_ne.2 h8) (beq_eq_false_iff_ne.2 h9) (beq_eq_false_iff_ne.2 h10)
 exact main (r1,r2,r3,r4) h
def r01_Neg.f (a0:Int):Option (Int × Int):=(r01_Sub.f 0 a0).bind fun bt330=>(some (bt330.1,bt330.2))
theorem r01_Neg.calls (a0:Int) (r1:Int) (r2:Int) (w:World) (h:r01_Neg.f a0=some (r1,r2)) :
  Calls Tryz.prog 179 #[.int .i64 a0] w fun e w'=>e = .returned (.tuple #[.int .i64 r1,.int .i64 r2])/\Drawn0 w w':=by
 have H:((r01_Sub.f 0 a0).bind fun bt330=>(some (bt330.1,bt330.2)))=some (r1,r2):=h;clear h;replace H:=Option.bind_eq_some_iff.mp H;obtain⟨⟨t330,t331⟩,A20,H⟩:=H;replace H:(some (t330,t331))=some (r1,r2):=H;have A2:=Aside0.mk A20;clear A20;simp only[Option.some.injEq,Prod.mk.injEq] at H;obtain⟨rfl,rfl⟩:=H;go_enter Tryz.func179,Tryz.ntmps179
 go_wp2_with (first | (refine gZ 5 Tryz.func174 #[.int .i64 0,.int .i64 a0] ?_;(with_reducible refine (r01_Sub.calls 0 a0 t330 t331 _ A2.out).mono ?_);rintro e w' ⟨rfl,⟨nd,rfl⟩⟩;refine⟨_,rfl,?_⟩))
 go_ret2;exact⟨zq3,zq5⟩
attribute [local go_sem] max2_int min2_int max_two min_two max_three min_three max_four min_four
attribute [local go_sem] max2_int min2_int max_two min_two max_three min_three max_four min_four
def r09_Value.l0:Nat->List (S85)->Int->Int->Int->Option (Int)
 | 0,_,_,_,_=>none
 | k+1,x0,x1,x5,x6=>if x6<(x0.length:Int) then (if 0<=x6 then (if ((rd_T85 x0 x6).f0)<=x1 then (r09_Value.l0 k x0 x1 (wrap64 (x5+((rd_T85 x0 x6).f1))) (wrap64 (x6+1))) else (r09_Value.l0 k x0 x1 x5 (wrap64 (x6+1)))) else (none)) else (some x5)
def r09_Value.f (k:Nat) (l0:List (S85)) (a1:Int):Option (Int):=r09_Value.l0 k l0 a1 0 0
theorem r09_Value.calls (k:Nat) (A0:Option Addr) (c0:Nat) (l0:List (S85)) (a1:Int) (r:Int) (w:World) (hr0:Kd.C k85 w A0 l0.length l0) (hc0:l0.length<=c0) (h:r09_Value.f k l0 a1=some r) :
  Calls Tryz.prog 25 #[.slice A0 l0.length c0,.int .i64 a1] w fun e w'=>e = .returned (.int .i64 r)/\Drawn0 w w':=by
 have HR0:=Aside0.mk hr0;have HC0:=Aside0.mk hc0;clear hr0 hc0;have H:(r09_Value.l0 k l0 a1 0 0)=some r:=h;clear h;have H':=Aside0.mk H;clear H;go_enter Tryz.func25,Tryz.ntmps25;go_wp2
 go_loopg [5,6] k (fun kq v5 v6 w'=>∃ (x5_1:Int) (x6_1:Int),v5 = .int .i64 x5_1/\v6 = .int .i64 x6_1/\Aside0 (r09_Value.l0 kq l0 a1 x5_1 x6_1=some r)/\Aside0 (kq<=k)/\Drawn0 w w')
 case atStart=>exact⟨(0),(0),zq3,zq3,H',⟨Nat.le_refl _⟩,zq5⟩
 case round =>
  clear H'
  try clear c2
  try clear p2
  obtain⟨x5_1,x6_1,rfl,rfl,HA,HK1,⟨m1,rfl⟩⟩:=hrel;cases gk with
  | zero=>exact absurd HA.out (by simp[r09_Value.l0])
  | succ k1 =>
   have H:=HA.out;clear HA;simp only[r09_Value.l0] at H
   by_cases c3:x6_1<(l0.length:Int)
   ·rw[if_pos c3] at H
    have c3b0:decide (x6_1<(l0.length:Int))=true:=DET c3;clear c3
    by_cases c4:0<=x6_1
    ·rw[if_pos c4] at H
     have c4b0:decide (0<=x6_1)=true:=DET c4;clear c4
     by_cases c5:((rd_T85 l0 x6_1).f0)<=a1
     ·rw[if_pos c5] at H
      have c5b0:decide (((rd_T85 l0 x6_1).f0)<=a1)=true:=DET c5;clear c5;have H':=Aside0.mk H;clear H;have p426:0<=(x6_1:Int):=ODT zq1;have q426:x6_1<(l0.length:Int):=ODT zq1;obtain⟨ad426,e426,hx426_0,hx426_1⟩:=at_T85 HR0.out x6_1 p426 q426;cases e426;replace p426:=eq_true p426;replace q426:=eq_true q426;have p427:0<=(x6_1:Int):=ODT zq1;have q427:x6_1<(l0.length:Int):=ODT zq1;obtain⟨ad427,e427,hx427_0,hx427_1⟩:=at_T85 HR0.out x6_1 p427 q427;obtain rfl:ad426=ad427:=(by injection e427)
      replace p427:=eq_true p427;replace q427:=eq_true q427;go_wp2
      go_roundg k1
      case measure=>have:=HK1.out;omega
      case rel=>exact⟨(wrap64 (x5_1+((rd_T85 l0 x6_1).f1))),(wrap64 (x6_1+1)),zq3,zq3,H',⟨by have:=HK1.out;omega⟩,zq5⟩
     ·rw[if_neg c5] at H
      have c5b0:decide (((rd_T85 l0 x6_1).f0)<=a1)=false:=DEF c5;clear c5;have H':=Aside0.mk H;clear H;have p426:0<=(x6_1:Int):=ODT zq1;have q426:x6_1<(l0.length:Int):=ODT zq1;obtain⟨ad426,e426,hx426_0,hx426_1⟩:=at_T85 HR0.out x6_1 p426 q426;cases e426;replace p426:=eq_true p426;replace q426:=eq_true q426;go_wp2
      go_roundg k1
      case measure=>have:=HK1.out;omega
      case rel=>exact⟨(x5_1),(wrap64 (x6_1+1)),zq3,zq3,H',⟨by have:=HK1.out;omega⟩,zq5⟩
    ·rw[if_neg c4] at H
     exact absurd H zq30
   ·rw[if_neg c3] at H
    have c3b0:decide (x6_1<(l0.length:Int))=false:=DEF c3;clear c3;obtain rfl:=OSI H;go_wp2;go_ret;exact⟨zq3,zq5⟩
def r09_Told.l0:Nat->List Int->List Int->List (S85)->Int->Int->Option ((List (S85)) × Int)
 | 0,_,_,_,_,_=>none
 | k+1,x0,x1,x6,x7,x8=>if x8<(x0.length:Int) then (if 0<=x8 then (if x8<(x1.length:Int) then (if (rd x1 x8)=x7 then (r09_Told.l0 k x0 x1 x6 (rd x1 x8) (wrap64 (x8+1))) else (if x6.length<8796093022208 then (r09_Told.l0 k x0 x1 (x6 ++ [(⟨rd x0 x8,wrap64 ((rd x1 x8) - x7)⟩:S85)]) (rd x1 x8) (wrap64 (x8+1))) else (none))) else (none)) else (none)) else ((r09_May.f k x6).bind fun t439=>(if t439=true then (some (x6,0)) else (some (([]:List (S85)),7))))
def r09_Told.f (k:Nat) (l0:List Int) (l1:List Int):Option ((List (S85)) × Int):=r09_Told.l0 k l0 l1 (([]:List (S85))) 0 0
def r09_Told.T7:Bool × List (List Nat × List Nat):=(true,[([],[]),([],[]),([],[]),([1,2],[1,2]),([3],[3]),([],[]),([],[]),([5,6],[5,6]),([7],[7]),([],[]),([8,9],[8,9]),([4,10],[4,10]),([11],[11]),([0,12],[0,12]),([13,13,0,1,2,3,4,5,6,7,8,9,10,11,12,13],[0,13])])
def r09_Told.B7:List Nat:=[0,0,0,6,14,0,0,96,224,0,992,2046,4094,8191,16383]
theorem r09_Told.tab7:rtab .any (opsOf Tryz.f111 7)=r09_Told.T7:=by kernel_rfl
theorem r09_Told.bits7:waitsOk r09_Told.T7.2 r09_Told.B7=true:=by kernel_rfl
theorem r09_Told.calls (k:Nat) (A0:Option Addr) (c0:Nat) (l0:List Int) (A1:Option Addr) (c1:Nat) (l1:List Int) (r1:List (S85)) (r2:Int) (w:World) (hr0:Kd.C (Kd.int .i64) w A0 l0.length l0) (hc0:l0.length<=c0) (hr1:Kd.C (Kd.int .i64) w A1 l1.length l1) (hc1:l1.length<=c1) (h:r09_Told.f k l0 l1=some (r1,r2)) :
  Calls Tryz.prog 111 #[.slice A0 l0.length c0,.slice A1 l1.length c1] w fun e w'=>∃ v0_:Value,e = .returned (.tuple #[v0_,.int .i64 r2])/\Kd.R k85 85 w' w.heap.size (fun _=>True) v0_ r1/\Below w.heap.size w w':=by
 have hu85:=Tryz.underlying85;have HR0:=Aside0.mk hr0;have HC0:=Aside0.mk hc0;clear hr0 hc0;have HR1:=Aside0.mk hr1;have HC1:=Aside0.mk hc1;clear hr1 hc1;have HB:=Aside0.mk (Below.refl w.heap.size w);have H:(r09_Told.l0 k l0 l1 (([]:List (S85))) 0 0)=some (r1,r2):=h;clear h;obtain⟨y428,hy428⟩:∃ y_:List (S85),y_=(([]:List (S85))):=⟨_,rfl⟩
 replace H:(r09_Told.l0 k l0 l1 y428 0 0)=some (r1,r2):=by first | (rw[hy428];with_reducible exact H) | (have H2_:=(Option.bind_some _ _).symm.trans H;rw[hy428];with_reducible exact H2_) | (have H2_:=(Option.bind_some _ _).symm.trans H;with_reducible exact H2_) | with_reducible exact H | (rw[hy428];exact H) | exact H
 have Ny428:=Aside0.mk hy428;clear hy428;have H':=Aside0.mk H;clear H;go_enter Tryz.func111,Tryz.ntmps111
 go_wp2_with (first | ((with_reducible refine gate_dst (N:=9) rfl ?_);refine Kd.R_lit k85 _ 85 ?hg (N:=9) ?hd (xs:=([]:List (S85))) (inner:=[]) (ok:=fun _=>True) (okp:=fun _=>True) ?hr ?hp (fun _ hk=>hk) trivial (Below.refl _ _) (Nat.le_refl _) zq30 ?_;(case hd=>rfl);(case hg=>rfl);(case hr=>first | (go_simp;done) | (go_simp;rfl));(case hp=>exact (Reps.none _ _));intro v429 w3 ho4 hb hg_ hnew_;clear hg_ hnew_;(first | rw[<- Ny428.out] at ho4 | (simp only[Int.reduceToNat] at ho4;rw[<- Ny428.out] at ho4));have HO430:=Aside0.mk (Kd.R_lower ho4 (below_size zq0));replace HB:=BB HB hb;clear hb ho4))
 go_loopg [6,7,8] k (fun kq v6 v7 v8 w'=>∃ (x6_1:List (S85)) (x7_1:Int) (x8_1:Int),v7 = .int .i64 x7_1/\v8 = .int .i64 x8_1/\Aside0 (r09_Told.l0 kq l0 l1 x6_1 x7_1 x8_1=some (r1,r2))/\Aside0 (kq<=k)/\Aside0 (Kd.R k85 85 w' w.heap.size (fun _=>True) v6 x6_1)/\Aside0 (Below w.heap.size w w'))
 case atStart=>exact⟨(y428),(0),(0),zq3,zq3,H',⟨Nat.le_refl _⟩,⟨(by (with_reducible repeat (first | apply Kd.R_alloc | apply Kd.R_drewN | apply Kd.R_drew));exact HO430.out)⟩,⟨zq0⟩⟩
 case round =>
  clear H'
  try clear c1
  try clear p2
  obtain⟨x6_1,x7_1,x8_1,rfl,rfl,HA,HK1,HO_6,HB⟩:=hrel;cases gk with
  | zero=>exact absurd HA.out (by simp[r09_Told.l0])
  | succ k1 =>
   have H:=HA.out;clear HA;simp only[r09_Told.l0] at H
   by_cases c5:x8_1<(l0.length:Int)
   ·rw[if_pos c5] at H
    have c5b0:decide (x8_1<(l0.length:Int))=true:=DET c5;clear c5
    by_cases c6:0<=x8_1
    ·rw[if_pos c6] at H
     have c6b0:decide (0<=x8_1)=true:=DET c6;clear c6
     by_cases c7:x8_1<(l1.length:Int)
     ·rw[if_pos c7] at H
      have c7b0:decide (x8_1<(l1.length:Int))=true:=DET c7;clear c7
      by_cases c8:(rd l1 x8_1)=x7_1
      ·rw[if_pos c8] at H
       have c8b0:((rd l1 x8_1) == x7_1)=true:=beq_iff_eq.mpr c8;have c8b1:((rd l1 x8_1) != x7_1)=false:=bne_eq_false_iff_eq.mpr c8;clear c8;have H':=Aside0.mk H;clear H;have p431:0<=(x8_1:Int):=ODT zq1;have q431:x8_1<(l1.length:Int):=ODT zq1;obtain⟨ad431,e431,hx431_0⟩:=Kd.at_int HR1.out x8_1 p431 q431;cases e431;replace hx431_0:=hZ hx431_0 HB.out;replace p431:=eq_true p431;replace q431:=eq_true q431;have p432:0<=(x8_1:Int):=ODT zq1;have q432:x8_1<(l1.length:Int):=ODT zq1;obtain⟨ad432,e432,hx432_0⟩:=Kd.at_int HR1.out x8_1 p432 q432;obtain rfl:ad431=ad432:=(by injection e432)
       replace hx432_0:=hZ hx432_0 HB.out;replace p432:=eq_true p432;replace q432:=eq_true q432;go_wp2
       go_roundg k1
       case measure=>have:=HK1.out;omega
       case rel=>exact⟨(x6_1),(rd l1 x8_1),(wrap64 (x8_1+1)),zq3,zq3,H',⟨by have:=HK1.out;omega⟩,⟨zq68⟩,⟨zq0⟩⟩
      ·rw[if_neg c8] at H
       have c8b0:((rd l1 x8_1) == x7_1)=false:=BNM c8;have c8b1:((rd l1 x8_1) != x7_1)=true:=bne_iff_ne.mpr c8
       by_cases c9:x6_1.length<8796093022208
       ·rw[if_pos c9] at H
        have LMc9:=Aside0.mk c9;clear c9;obtain⟨y435,hy435⟩:∃ y_:List (S85),y_=(x6_1 ++ [(⟨rd l0 x8_1,wrap64 ((rd l1 x8_1) - x7_1)⟩:S85)]):=⟨_,rfl⟩
        replace H:(r09_Told.l0 k1 l0 l1 y435 (rd l1 x8_1) (wrap64 (x8_1+1)))=some (r1,r2):=by first | (rw[hy435];with_reducible exact H) | (have H2_:=(Option.bind_some _ _).symm.trans H;rw[hy435];with_reducible exact H2_) | (have H2_:=(Option.bind_some _ _).symm.trans H;with_reducible exact H2_) | with_reducible exact H | (rw[hy435];exact H) | exact H
        have Ny435:=Aside0.mk hy435;clear hy435;have H':=Aside0.mk H;clear H;have p431:0<=(x8_1:Int):=ODT zq1;have q431:x8_1<(l1.length:Int):=ODT zq1;obtain⟨ad431,e431,hx431_0⟩:=Kd.at_int HR1.out x8_1 p431 q431;cases e431;replace hx431_0:=hZ hx431_0 HB.out;replace p431:=eq_true p431;replace q431:=eq_true q431
        try go_wp2
        replace HO_6:=Aside0.mk (Kd.R_drew HO_6.out);replace HB:=Aside0.mk (below_drew1 HB.out);have p433:0<=(x8_1:Int):=ODT zq1;have q433:x8_1<(l0.length:Int):=ODT zq1;obtain⟨ad433,e433,hx433_0⟩:=Kd.at_int HR0.out x8_1 p433 q433;have hw433_0:=hx433_0;cases e433;replace hx433_0:=hZ hx433_0 HB.out;replace p433:=eq_true p433;replace q433:=eq_true q433;have p434:0<=(x8_1:Int):=ODT zq1;have q434:x8_1<(l1.length:Int):=ODT zq1;obtain⟨ad434,e434,hx434_0⟩:=Kd.at_int HR1.out x8_1 p434 q434;have hw434_0:=hx434_0;obtain rfl:ad431=ad434:=(by injection e434)
        replace hx434_0:=hZ hx434_0 HB.out;replace p434:=eq_true p434;replace q434:=eq_true q434;refine start_ (n:=15) (S:=fun w'=>w'.cell? (ad433.add (x8_1).toNat)=some (.int .i64 (rd l0 x8_1))/\w'.cell? (ad431.add (x8_1).toNat)=some (.int .i64 (rd l1 x8_1))) (ds:=[]) #[false,false,false,false,false,false,false,false,false,false,false,false,false,false,false] zq17 rfl rfl ⟨hZ hw433_0 HB.out,hZ hw434_0 HB.out⟩ (fun hHeld=>?_);refine with_tabW r09_Told.tab7 r09_Told.bits7 (fun HT_ HW_=>?_)
        generalize wr.drew=w10 at HO_6 HB hx433_0 hx434_0 hHeld ⊢;refine pZ 0 22 ?_;refine pZ 1 23 ?_;refine pZ 2 24 ?_;refine pZ 3 25 ?_;refine pZ 5 27 ?_;refine pZ 6 28 ?_;refine pZ 7 29 ?_;refine pZ 9 31 ?_;refine tZ2 4 26 ?_;refine tZ2 8 30 ?_;refine pZ 10 32 ?_;refine pZ 11 33 ?_;refine oZ 12 34 (fun K hK=>?_);refine value_ (w1:=?_) (v:=?_) (by rfl) rfl ?_ ?_;rotate_left 2
        ·go_simp
         constructor
         ·rfl
         ·rfl
        refine hK.out _ _ ⟨(World.cell?_alloc_lt _ _ _ (World.block_lt_of_cell? _ _ (((HB.out.cell (World.block_lt_of_cell? w _ hw433_0)).trans hw433_0)))).trans (((HB.out.cell (World.block_lt_of_cell? w _ hw433_0)).trans hw433_0)),(World.cell?_alloc_lt _ _ _ (World.block_lt_of_cell? _ _ (((HB.out.cell (World.block_lt_of_cell? w _ hw434_0)).trans hw434_0)))).trans (((HB.out.cell (World.block_lt_of_cell? w _ hw434_0)).trans hw434_0))⟩ (fun hHeld=>?_);clear hK K;refine nZ 34 ?_;refine oZ 13 35 (fun K hK=>?_);refine Kd.R_append_step k85 (w0:=w) w.heap.size (by rfl) (.tmp 22) (.tmp 34) 43 85 (.agg #[(.int .i64 0),(.int .i64 0)]) 16 rfl Tryz.underlying43 info85 rfl zq34 zq4 u6 x6_1 (⟨rd l0 x8_1,wrap64 ((rd l1 x8_1) - x7_1)⟩:S85) [.int .i64 (rd l0 x8_1),.int .i64 (wrap64 ((rd l1 x8_1) - x7_1))] (fun _=>True) (fun _=>False) rfl rfl ?aP (fun _ hk=>hk.elim) ?aF ?aO ?aB ?aS ?aL ?_
        (case aP=>exact k85_mkM _ _ _ (⟨rd l0 x8_1,wrap64 ((rd l1 x8_1) - x7_1)⟩:S85))
        (case aB=>exact zq0)
        (case aF=>exact (fun _ _=>trivial))
        (case aO=>exact (rQ HO_6.out))
        (case aS=>exact (below_size zq0))
        (case aL=>have:=LMc9.out;omega)
        intro v436 w11 ho hb hg hat;rw[<- Ny435.out] at ho;have HO437:=Aside0.mk (ho);replace HB:=Aside0.mk (hb);clear HO_6;clear ho hb hg hat;refine hK.out _ _ ⟨hZ hw433_0 HB.out,hZ hw434_0 HB.out⟩ (fun hHeld=>?_);clear hK K;refine nZ 35 ?_;refine pZ 14 6 ?_;refine done_ (done_of HT_.out zq17) ?_;have p438:0<=(x8_1:Int):=ODT zq1;have q438:x8_1<(l1.length:Int):=ODT zq1;obtain⟨ad438,e438,hx438_0⟩:=Kd.at_int HR1.out x8_1 p438 q438;obtain rfl:ad431=ad438:=(by injection e438)
        replace hx438_0:=hZ hx438_0 HB.out;replace p438:=eq_true p438;replace q438:=eq_true q438
        try go_wp2
        go_roundg k1
        case measure=>have:=HK1.out;omega
        case rel=>exact⟨(y435),(rd l1 x8_1),(wrap64 (x8_1+1)),zq3,zq3,H',⟨by have:=HK1.out;omega⟩,⟨(by (with_reducible repeat (first | apply Kd.R_alloc | apply Kd.R_drewN | apply Kd.R_drew));exact HO437.out)⟩,⟨zq0⟩⟩
       ·rw[if_neg c9] at H
        exact absurd H zq30
     ·rw[if_neg c7] at H
      exact absurd H zq30
    ·rw[if_neg c6] at H
     exact absurd H zq30
   ·rw[if_neg c5] at H
    have c5b0:decide (x8_1<(l0.length:Int))=false:=DEF c5;clear c5;replace H:=Option.bind_eq_some_iff.mp H;obtain⟨t439,A120,H⟩:=H;replace H:(if t439=true then (some (x6_1,0)) else (some (([]:List (S85)),7)))=some (r1,r2):=H;have A12:=Aside0.mk A120;clear A120
    by_cases c13:t439=true
    ·subst c13
     have H1:(some (x6_1,0))=some (r1,r2):=by rw[if_pos rfl] at H;exact H
     clear H;have H:=H1;clear H1;simp only[Option.some.injEq,Prod.mk.injEq] at H;obtain⟨rfl,rfl⟩:=H;obtain⟨Ao14,co14,eo14⟩:=Kd.R_slice HO_6.out;subst eo14
     go_wp2_with (first | (refine gZ 41 Tryz.func79 #[.slice Ao14 x6_1.length co14] ?_;(with_reducible refine (r09_May.calls k1 _ _ x6_1 true _ ?side1 ?side2 A12.out).mono ?_);(case side1=>repeat (first | exact (Kd.R_reads' HO_6.out).2.2 | (with_reducible refine Kd.C_alloc ?_ _) | (with_reducible refine Kd.C_drewN ?_ _) | (with_reducible refine Kd.C_drew ?_)));(case side2=>exact (Kd.R_reads' HO_6.out).2.1);rintro e w' ⟨rfl,⟨nd,rfl⟩⟩;refine⟨_,rfl,?_⟩))
     go_ret2;exact⟨_,zq2,zq68,zq0⟩
    ·replace c13:=Bool.eq_false_iff.mpr c13
     subst c13;have H1:(some (([]:List (S85)),7))=some (r1,r2):=by rw[if_neg (show ¬ (false=true) by decide)] at H;exact H
     clear H;have H:=H1;clear H1;simp only[Option.some.injEq,Prod.mk.injEq] at H;obtain⟨rfl,rfl⟩:=H;obtain⟨Ao15,co15,eo15⟩:=Kd.R_slice HO_6.out;subst eo15
     go_wp2_with (first | (refine gZ 41 Tryz.func79 #[.slice Ao15 x6_1.length co15] ?_;(with_reducible refine (r09_May.calls k1 _ _ x6_1 false _ ?side1 ?side2 A12.out).mono ?_);(case side1=>repeat (first | exact (Kd.R_reads' HO_6.out).2.2 | (with_reducible refine Kd.C_alloc ?_ _) | (with_reducible refine Kd.C_drewN ?_ _) | (with_reducible refine Kd.C_drew ?_)));(case side2=>exact (Kd.R_reads' HO_6.out).2.1);rintro e w' ⟨rfl,⟨nd,rfl⟩⟩;refine⟨_,rfl,?_⟩))
     go_ret2;exact⟨_,zq2,zq13,zq0⟩
attribute [local go_sem] max2_int min2_int max_two min_two max_three min_three max_four min_four
end Go.Proofs.YtmkgecapkeojaaaGreat.PDa
end
