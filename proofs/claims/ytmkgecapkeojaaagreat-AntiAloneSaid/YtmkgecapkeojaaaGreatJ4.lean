/- Texts of this claim, put together by a program: PDax8, PDax9, PDax10, PDax11, PDax12, PDax13. -/
import Derived.Test.YtmkgecapkeojaaaGreatJ3
set_option linter.unusedVariables false
set_option linter.unusedSimpArgs false
set_option maxHeartbeats 8000000
set_option maxRecDepth 100000
section
namespace Go.Proofs.YtmkgecapkeojaaaGreat.PDa
open RowKit YtmkgecapkeojaaaGreatW.PrintWords YtmkgecapkeojaaaGreatW.PrintLast YtmkgecapkeojaaaGreatW.PrintMore
attribute [local go_sem] max2_int min2_int max_two min_two max_three min_three max_four min_four
def r10_Jumps.l0:Nat->List (S41)->List (S65)->List (S85)->Int->Option ((List (S85)))
 | 0,_,_,_,_=>none
 | k+1,x0,x1,x5,x6=>if x6<(x0.length:Int) then (if 0<=x6 then ((r06_Same.f k ((rd_T41 x0 x6).f0) x1).bind fun t172=>(if t172=true then (if x5.length<8796093022208 then (r10_Jumps.l0 k x0 x1 (x5 ++ [(⟨(rd_T41 x0 x6).f1,(rd_T41 x0 x6).f2⟩:S85)]) (wrap64 (x6+1))) else (none)) else (r10_Jumps.l0 k x0 x1 x5 (wrap64 (x6+1))))) else (none)) else (some x5)
def r10_Jumps.f (k:Nat) (l0:List (S41)) (l1:List (S65)):Option ((List (S85))):=r10_Jumps.l0 k l0 l1 (([]:List (S85))) 0
def r10_Jumps.T6:Bool × List (List Nat × List Nat):=(true,[([],[]),([],[]),([],[]),([1,2],[1,2]),([3],[3]),([4],[4]),([],[]),([],[]),([6,7],[6,7]),([8],[8]),([9],[9]),([5,10],[5,10]),([11],[11]),([0,12],[0,12]),([13,13,0,1,2,3,4,5,6,7,8,9,10,11,12,13],[0,13])])
def r10_Jumps.B6:List Nat:=[0,0,0,6,14,30,0,0,192,448,960,2046,4094,8191,16383]
theorem r10_Jumps.tab6:rtab .any (opsOf Tryz.f26 6)=r10_Jumps.T6:=by kernel_rfl
theorem r10_Jumps.bits6:waitsOk r10_Jumps.T6.2 r10_Jumps.B6=true:=by kernel_rfl
theorem r10_Jumps.calls (k:Nat) (A0:Option Addr) (c0:Nat) (l0:List (S41)) (A1:Option Addr) (c1:Nat) (l1:List (S65)) (r:List (S85)) (w:World) (hr0:Kd.C k41 w A0 l0.length l0) (hc0:l0.length<=c0) (hr1:Kd.C k65 w A1 l1.length l1) (hc1:l1.length<=c1) (h:r10_Jumps.f k l0 l1=some r) :
  Calls Tryz.prog 26 #[.slice A0 l0.length c0,.slice A1 l1.length c1] w fun e w'=>∃ v0_:Value,e = .returned (v0_)/\Kd.R k85 85 w' w.heap.size (fun _=>True) v0_ r/\Below w.heap.size w w':=by
 have hu85:=Tryz.underlying85;have HR0:=Aside0.mk hr0;have HC0:=Aside0.mk hc0;clear hr0 hc0;have HR1:=Aside0.mk hr1;have HC1:=Aside0.mk hc1;clear hr1 hc1;have HB:=Aside0.mk (Below.refl w.heap.size w);have H:(r10_Jumps.l0 k l0 l1 (([]:List (S85))) 0)=some r:=h;clear h;obtain⟨y168,hy168⟩:∃ y_:List (S85),y_=(([]:List (S85))):=⟨_,rfl⟩
 replace H:(r10_Jumps.l0 k l0 l1 y168 0)=some r:=by first | (rw[hy168];with_reducible exact H) | (have H2_:=(Option.bind_some _ _).symm.trans H;rw[hy168];with_reducible exact H2_) | (have H2_:=(Option.bind_some _ _).symm.trans H;with_reducible exact H2_) | with_reducible exact H | (rw[hy168];exact H) | exact H
 have Ny168:=Aside0.mk hy168;clear hy168;have H':=Aside0.mk H;clear H;go_enter Tryz.func26,Tryz.ntmps26
 go_wp2_with (first | ((with_reducible refine gate_dst (N:=7) rfl ?_);refine Kd.R_lit k85 _ 85 ?hg (N:=7) ?hd (xs:=([]:List (S85))) (inner:=[]) (ok:=fun _=>True) (okp:=fun _=>True) ?hr ?hp (fun _ hk=>hk) trivial (Below.refl _ _) (Nat.le_refl _) zq30 ?_;(case hd=>rfl);(case hg=>rfl);(case hr=>first | (go_simp;done) | (go_simp;rfl));(case hp=>exact (Reps.none _ _));intro v169 w3 ho4 hb hg_ hnew_;clear hg_ hnew_;(first | rw[<- Ny168.out] at ho4 | (simp only[Int.reduceToNat] at ho4;rw[<- Ny168.out] at ho4));have HO170:=Aside0.mk (Kd.R_lower ho4 (below_size zq0));replace HB:=BB HB hb;clear hb ho4))
 go_loopg [5,6] k (fun kq v5 v6 w'=>∃ (x5_1:List (S85)) (x6_1:Int),v6 = .int .i64 x6_1/\Aside0 (r10_Jumps.l0 kq l0 l1 x5_1 x6_1=some r)/\Aside0 (kq<=k)/\Aside0 (Kd.R k85 85 w' w.heap.size (fun _=>True) v5 x5_1)/\Aside0 (Below w.heap.size w w'))
 case atStart=>exact⟨(y168),(0),zq3,H',⟨Nat.le_refl _⟩,⟨(by (with_reducible repeat (first | apply Kd.R_alloc | apply Kd.R_drewN | apply Kd.R_drew));exact HO170.out)⟩,⟨zq0⟩⟩
 case round =>
  clear H'
  try clear c1
  try clear c2
  try clear p2
  obtain⟨x5_1,x6_1,rfl,HA,HK1,HO_5,HB⟩:=hrel;cases gk with
  | zero=>exact absurd HA.out (by simp[r10_Jumps.l0])
  | succ k1 =>
   have H:=HA.out;clear HA;simp only[r10_Jumps.l0] at H
   by_cases c5:x6_1<(l0.length:Int)
   ·rw[if_pos c5] at H
    have c5b0:decide (x6_1<(l0.length:Int))=true:=DET c5;clear c5
    by_cases c6:0<=x6_1
    ·rw[if_pos c6] at H
     have c6b0:decide (0<=x6_1)=true:=DET c6;clear c6;replace H:=Option.bind_eq_some_iff.mp H;obtain⟨t172,A70,H⟩:=H;replace H:(if t172=true then (if x5_1.length<8796093022208 then (r10_Jumps.l0 k1 l0 l1 (x5_1 ++ [(⟨(rd_T41 l0 x6_1).f1,(rd_T41 l0 x6_1).f2⟩:S85)]) (wrap64 (x6_1+1))) else (none)) else (r10_Jumps.l0 k1 l0 l1 x5_1 (wrap64 (x6_1+1))))=some r:=H;have A7:=Aside0.mk A70;clear A70
     by_cases c8:t172=true
     ·subst c8
      have H1:(if x5_1.length<8796093022208 then (r10_Jumps.l0 k1 l0 l1 (x5_1 ++ [(⟨(rd_T41 l0 x6_1).f1,(rd_T41 l0 x6_1).f2⟩:S85)]) (wrap64 (x6_1+1))) else (none))=some r:=by rw[if_pos rfl] at H;exact H
      clear H;have H:=H1;clear H1
      by_cases c9:x5_1.length<8796093022208
      ·rw[if_pos c9] at H
       have LMc9:=Aside0.mk c9;clear c9;obtain⟨y175,hy175⟩:∃ y_:List (S85),y_=(x5_1 ++ [(⟨(rd_T41 l0 x6_1).f1,(rd_T41 l0 x6_1).f2⟩:S85)]):=⟨_,rfl⟩
       replace H:(r10_Jumps.l0 k1 l0 l1 y175 (wrap64 (x6_1+1)))=some r:=by first | (rw[hy175];with_reducible exact H) | (have H2_:=(Option.bind_some _ _).symm.trans H;rw[hy175];with_reducible exact H2_) | (have H2_:=(Option.bind_some _ _).symm.trans H;with_reducible exact H2_) | with_reducible exact H | (rw[hy175];exact H) | exact H
       have Ny175:=Aside0.mk hy175;clear hy175;have H':=Aside0.mk H;clear H;have p171:0<=(x6_1:Int):=ODT zq1;have q171:x6_1<(l0.length:Int):=ODT zq1;obtain⟨ad171,A171_0,c171_0,e171,hx171_0,hx171_1,hx171_2,hl171_0,hi171_0⟩:=at_T41 HR0.out x6_1 p171 q171;cases e171;replace hx171_0:=hZ hx171_0 HB.out;replace hx171_1:=hZ hx171_1 HB.out;replace hx171_2:=hZ hx171_2 HB.out;have HR171_0:=Aside0.mk hi171_0;have HC171_0:=Aside0.mk hl171_0;clear hi171_0 hl171_0;replace p171:=eq_true p171;replace q171:=eq_true q171
       try go_wp2_with (first | (refine gZ 20 Tryz.func53 #[.slice A171_0 ((rd_T41 l0 x6_1).f0).length c171_0,.slice A1 l1.length c1] ?_;(with_reducible refine (r06_Same.calls k1 _ _ ((rd_T41 l0 x6_1).f0) _ _ l1 true _ ?side1 ?side2 ?side3 ?side4 A7.out).mono ?_);(case side1=>exact cQ (Kd.C_below HR171_0.out HB.out));(case side2=>exact HC171_0.out);(case side3=>exact cQ (Kd.C_below HR1.out HB.out));(case side4=>exact HC1.out);rintro e w' ⟨rfl,⟨nd,rfl⟩⟩;refine⟨_,rfl,?_⟩))
       (try (rw[drewN_self wr];generalize hq_:World.drewN wr _=wr;have n0_:Aside0 (Kd.R k85 85 wr w.heap.size (fun _=>True) u5 x5_1):=⟨by rw[<- hq_];exact (rQ HO_5.out)⟩;have n1_:Aside0 (Below w.heap.size w wr):=⟨by rw[<- hq_];exact zq0⟩;clear HO_5 HB hq_;have HO_5:=n0_;have HB:=n1_;clear n0_ n1_))
       replace HO_5:=Aside0.mk (Kd.R_drew HO_5.out);replace HB:=Aside0.mk (below_drew1 HB.out);have p173:0<=(x6_1:Int):=ODT zq1;have q173:x6_1<(l0.length:Int):=ODT zq1;obtain⟨ad173,A173_0,c173_0,e173,hx173_0,hx173_1,hx173_2,hl173_0,hi173_0⟩:=at_T41 HR0.out x6_1 p173 q173;have hw173_2:=hx173_2;have hw173_1:=hx173_1;have hw173_0:=hx173_0;obtain rfl:ad171=ad173:=(by injection e173)
       replace hx173_0:=hZ hx173_0 HB.out;replace hx173_1:=hZ hx173_1 HB.out;replace hx173_2:=hZ hx173_2 HB.out;have HR173_0:=Aside0.mk hi173_0;have HC173_0:=Aside0.mk hl173_0;clear hi173_0 hl173_0;replace p173:=eq_true p173;replace q173:=eq_true q173;have p174:0<=(x6_1:Int):=ODT zq1;have q174:x6_1<(l0.length:Int):=ODT zq1;obtain⟨ad174,A174_0,c174_0,e174,hx174_0,hx174_1,hx174_2,hl174_0,hi174_0⟩:=at_T41 HR0.out x6_1 p174 q174;have hw174_2:=hx174_2;have hw174_1:=hx174_1;have hw174_0:=hx174_0;obtain rfl:ad171=ad174:=(by injection e174)
       replace hx174_0:=hZ hx174_0 HB.out;replace hx174_1:=hZ hx174_1 HB.out;replace hx174_2:=hZ hx174_2 HB.out;have HR174_0:=Aside0.mk hi174_0;have HC174_0:=Aside0.mk hl174_0;clear hi174_0 hl174_0;replace p174:=eq_true p174;replace q174:=eq_true q174;have ea_:=OSI (hx173_0.symm.trans hx174_0);injection ea_ with ea_ en_ ec_
       subst ea_;subst ec_;clear en_;refine start_ (n:=15) (S:=fun w'=>w'.cell? (ad171.add ((x6_1).toNat*3))=some (.slice A173_0 ((rd_T41 l0 x6_1).f0).length c173_0)/\w'.cell? ⟨(ad171.add ((x6_1).toNat*3)).block,(ad171.add ((x6_1).toNat*3)).off+1,none⟩=some (.int .i64 ((rd_T41 l0 x6_1).f1))/\w'.cell? ⟨(ad171.add ((x6_1).toNat*3)).block,(ad171.add ((x6_1).toNat*3)).off+2,none⟩=some (.int .i64 ((rd_T41 l0 x6_1).f2))/\w'.cell? (ad171.add ((x6_1).toNat*3))=some (.slice A173_0 ((rd_T41 l0 x6_1).f0).length c173_0)/\w'.cell? ⟨(ad171.add ((x6_1).toNat*3)).block,(ad171.add ((x6_1).toNat*3)).off+1,none⟩=some (.int .i64 ((rd_T41 l0 x6_1).f1))/\w'.cell? ⟨(ad171.add ((x6_1).toNat*3)).block,(ad171.add ((x6_1).toNat*3)).off+2,none⟩=some (.int .i64 ((rd_T41 l0 x6_1).f2))) (ds:=[]) #[false,false,false,false,false,false,false,false,false,false,false,false,false,false,false] zq17 rfl rfl ⟨hZ hw173_0 HB.out,hZ hw173_1 HB.out,hZ hw173_2 HB.out,hZ hw174_0 HB.out,hZ hw174_1 HB.out,hZ hw174_2 HB.out⟩ (fun hHeld=>?_);refine with_tabW r10_Jumps.tab6 r10_Jumps.bits6 (fun HT_ HW_=>?_)
       generalize wr.drew=w10 at HO_5 HB HR173_0 HR174_0 hx173_0 hx173_1 hx173_2 hx174_0 hx174_1 hx174_2 hHeld ⊢;refine pZ 0 21 ?_;refine pZ 1 22 ?_;refine pZ 2 23 ?_;refine pZ 3 24 ?_;refine pZ 4 25 ?_;refine pZ 6 27 ?_;refine pZ 7 28 ?_;refine pZ 8 29 ?_;refine pZ 9 30 ?_;refine tZ6 5 26 ?_;refine tZ6 10 31 ?_;refine pZ 11 32 ?_;refine oZ 12 33 (fun K hK=>?_);refine value_ (w1:=?_) (v:=?_) (by rfl) rfl ?_ ?_;rotate_left 2
       ·go_simp
        constructor
        ·rfl
        ·rfl
       refine hK.out _ _ ⟨(World.cell?_alloc_lt _ _ _ (World.block_lt_of_cell? _ _ (((HB.out.cell (World.block_lt_of_cell? w _ hw173_0)).trans hw173_0)))).trans (((HB.out.cell (World.block_lt_of_cell? w _ hw173_0)).trans hw173_0)),(World.cell?_alloc_lt _ _ _ (World.block_lt_of_cell? _ _ (((HB.out.cell (World.block_lt_of_cell? w _ hw173_1)).trans hw173_1)))).trans (((HB.out.cell (World.block_lt_of_cell? w _ hw173_1)).trans hw173_1)),(World.cell?_alloc_lt _ _ _ (World.block_lt_of_cell? _ _ (((HB.out.cell (World.block_lt_of_cell? w _ hw173_2)).trans hw173_2)))).trans (((HB.out.cell (World.block_lt_of_cell? w _ hw173_2)).trans hw173_2)),(World.cell?_alloc_lt _ _ _ (World.block_lt_of_cell? _ _ (((HB.out.cell (World.block_lt_of_cell? w _ hw174_0)).trans hw174_0)))).trans (((HB.out.cell (World.block_lt_of_cell? w _ hw174_0)).trans hw174_0)),(World.cell?_alloc_lt _ _ _ (World.block_lt_of_cell? _ _ (((HB.out.cell (World.block_lt_of_cell? w _ hw174_1)).trans hw174_1)))).trans (((HB.out.cell (World.block_lt_of_cell? w _ hw174_1)).trans hw174_1)),(World.cell?_alloc_lt _ _ _ (World.block_lt_of_cell? _ _ (((HB.out.cell (World.block_lt_of_cell? w _ hw174_2)).trans hw174_2)))).trans (((HB.out.cell (World.block_lt_of_cell? w _ hw174_2)).trans hw174_2))⟩ (fun hHeld=>?_);clear hK K;refine nZ 33 ?_;refine oZ 13 34 (fun K hK=>?_);refine Kd.R_append_step k85 (w0:=w) w.heap.size (by rfl) (.tmp 21) (.tmp 33) 43 85 (.agg #[(.int .i64 0),(.int .i64 0)]) 16 rfl Tryz.underlying43 info85 rfl zq34 zq4 u5 x5_1 (⟨(rd_T41 l0 x6_1).f1,(rd_T41 l0 x6_1).f2⟩:S85) [.int .i64 ((rd_T41 l0 x6_1).f1),.int .i64 ((rd_T41 l0 x6_1).f2)] (fun _=>True) (fun _=>False) rfl rfl ?aP (fun _ hk=>hk.elim) ?aF ?aO ?aB ?aS ?aL ?_
       (case aP=>exact k85_mkM _ _ _ (⟨(rd_T41 l0 x6_1).f1,(rd_T41 l0 x6_1).f2⟩:S85))
       (case aB=>exact zq0)
       (case aF=>exact (fun _ _=>trivial))
       (case aO=>exact (rQ HO_5.out))
       (case aS=>exact (below_size zq0))
       (case aL=>have:=LMc9.out;omega)
       intro v176 w11 ho hb hg hat;rw[<- Ny175.out] at ho;have HO177:=Aside0.mk (ho);replace HB:=Aside0.mk (hb);clear HO_5;clear ho hb hg hat;refine hK.out _ _ ⟨hZ hw173_0 HB.out,hZ hw173_1 HB.out,hZ hw173_2 HB.out,hZ hw174_0 HB.out,hZ hw174_1 HB.out,hZ hw174_2 HB.out⟩ (fun hHeld=>?_);clear hK K;refine nZ 34 ?_;refine pZ 14 5 ?_;refine done_ (done_of HT_.out zq17) ?_
       try go_wp2
       go_roundg k1
       case measure=>have:=HK1.out;omega
       case rel=>exact⟨(y175),(wrap64 (x6_1+1)),zq3,H',⟨by have:=HK1.out;omega⟩,⟨(by (with_reducible repeat (first | apply Kd.R_alloc | apply Kd.R_drewN | apply Kd.R_drew));exact HO177.out)⟩,⟨zq0⟩⟩
      ·rw[if_neg c9] at H
       exact absurd H zq30
     ·replace c8:=Bool.eq_false_iff.mpr c8
      subst c8;have H1:(r10_Jumps.l0 k1 l0 l1 x5_1 (wrap64 (x6_1+1)))=some r:=by rw[if_neg (show ¬ (false=true) by decide)] at H;exact H
      clear H;have H:=H1;clear H1;have H':=Aside0.mk H;clear H;have p171:0<=(x6_1:Int):=ODT zq1;have q171:x6_1<(l0.length:Int):=ODT zq1;obtain⟨ad171,A171_0,c171_0,e171,hx171_0,hx171_1,hx171_2,hl171_0,hi171_0⟩:=at_T41 HR0.out x6_1 p171 q171;cases e171;replace hx171_0:=hZ hx171_0 HB.out;replace hx171_1:=hZ hx171_1 HB.out;replace hx171_2:=hZ hx171_2 HB.out;have HR171_0:=Aside0.mk hi171_0;have HC171_0:=Aside0.mk hl171_0;clear hi171_0 hl171_0;replace p171:=eq_true p171;replace q171:=eq_true q171
      go_wp2_with (first | (refine gZ 20 Tryz.func53 #[.slice A171_0 ((rd_T41 l0 x6_1).f0).length c171_0,.slice A1 l1.length c1] ?_;(with_reducible refine (r06_Same.calls k1 _ _ ((rd_T41 l0 x6_1).f0) _ _ l1 false _ ?side1 ?side2 ?side3 ?side4 A7.out).mono ?_);(case side1=>exact cQ (Kd.C_below HR171_0.out HB.out));(case side2=>exact HC171_0.out);(case side3=>exact cQ (Kd.C_below HR1.out HB.out));(case side4=>exact HC1.out);rintro e w' ⟨rfl,⟨nd,rfl⟩⟩;refine⟨_,rfl,?_⟩))
      go_roundg k1
      case measure=>have:=HK1.out;omega
      case rel=>exact⟨(x5_1),(wrap64 (x6_1+1)),zq3,H',⟨by have:=HK1.out;omega⟩,⟨zq40⟩,⟨zq0⟩⟩
    ·rw[if_neg c6] at H
     exact absurd H zq30
   ·rw[if_neg c5] at H
    have c5b0:decide (x6_1<(l0.length:Int))=false:=DEF c5;clear c5;obtain rfl:=OSI H;go_wp2;go_ret;exact⟨_,zq2,zq40,zq0⟩
def r05_May.f (a0_0:Int) (a0_1:Int) (a0_2:ByteArray):Option (Bool):=if a0_0=1 then (some (a0_2.toList == ([]:List UInt8))) else (if a0_0=2 then (if a0_1=0 then (some (decide ((a0_2.size:Int)<=64))) else (some false)) else (some false))
theorem r05_May.calls (a0_0:Int) (a0_1:Int) (a0_2:ByteArray) (r:Bool) (w:World) (h:r05_May.f a0_0 a0_1 a0_2=some r) :
  Calls Tryz.prog 112 #[.agg #[.int .i64 a0_0,.int .i64 a0_1,.string a0_2]] w fun e w'=>e = .returned (.bool r)/\Below w.heap.size w w':=by
 have hu65:=Tryz.underlying65;have HB:=Aside0.mk (Below.refl w.heap.size w);have H:(if a0_0=1 then (some (a0_2.toList == ([]:List UInt8))) else (if a0_0=2 then (if a0_1=0 then (some (decide ((a0_2.size:Int)<=64))) else (some false)) else (some false)))=some r:=h;clear h
 by_cases c2:a0_0=1
 ·rw[if_pos c2] at H
  have c2b0:(a0_0 == 1)=true:=beq_iff_eq.mpr c2;have c2b1:(a0_0 != 1)=false:=bne_eq_false_iff_eq.mpr c2;clear c2;obtain rfl:=OSI H;go_enter Tryz.func112,Tryz.ntmps112
  go_wp2_with (first | ((with_reducible refine gate_dst (N:=1) rfl ?_);(try (refine gate_guard (by rfl) ?_;dsimp only));refine bZ 1 #[.int .i64 a0_0,.int .i64 a0_1,.string a0_2] 65 ?_;intro gb178 hg w3 hbox hb;have BK178:=Aside0.mk (hbox);have GW178:=GB HB hg;have GE178:=GW178;replace HB:=BB HB hb;clear hb hbox hg;obtain⟨hcz4_0,hcz4_1,hcz4_2,hfz4_0,hfz4_1,hfz4_2⟩:=bL3 BK178))
  go_ret;exact⟨zq2,zq50⟩
 ·rw[if_neg c2] at H
  have c2b0:(a0_0 == 1)=false:=BNM c2;have c2b1:(a0_0 != 1)=true:=bne_iff_ne.mpr c2
  by_cases c5:a0_0=2
  ·rw[if_pos c5] at H
   have c5b0:(a0_0 == 2)=true:=beq_iff_eq.mpr c5;have c5b1:(a0_0 != 2)=false:=bne_eq_false_iff_eq.mpr c5;clear c5
   by_cases c6:a0_1=0
   ·rw[if_pos c6] at H
    have c6b0:(a0_1 == 0)=true:=beq_iff_eq.mpr c6;have c6b1:(a0_1 != 0)=false:=bne_eq_false_iff_eq.mpr c6;clear c6;obtain rfl:=OSI H;go_enter Tryz.func112,Tryz.ntmps112
    go_wp2_with (first | ((with_reducible refine gate_dst (N:=1) rfl ?_);(try (refine gate_guard (by rfl) ?_;dsimp only));refine bZ 1 #[.int .i64 a0_0,.int .i64 a0_1,.string a0_2] 65 ?_;intro gb178 hg w7 hbox hb;have BK178:=Aside0.mk (hbox);have GW178:=GB HB hg;have GE178:=GW178;replace HB:=BB HB hb;clear hb hbox hg;obtain⟨hcz8_0,hcz8_1,hcz8_2,hfz8_0,hfz8_1,hfz8_2⟩:=bL3 BK178))
    go_ret;exact⟨zq2,zq50⟩
   ·rw[if_neg c6] at H
    have c6b0:(a0_1 == 0)=false:=BNM c6;have c6b1:(a0_1 != 0)=true:=bne_iff_ne.mpr c6;obtain rfl:=OSI H;go_enter Tryz.func112,Tryz.ntmps112
    go_wp2_with (first | ((with_reducible refine gate_dst (N:=1) rfl ?_);(try (refine gate_guard (by rfl) ?_;dsimp only));refine bZ 1 #[.int .i64 a0_0,.int .i64 a0_1,.string a0_2] 65 ?_;intro gb178 hg w9 hbox hb;have BK178:=Aside0.mk (hbox);have GW178:=GB HB hg;have GE178:=GW178;replace HB:=BB HB hb;clear hb hbox hg;obtain⟨hcz10_0,hcz10_1,hcz10_2,hfz10_0,hfz10_1,hfz10_2⟩:=bL3 BK178))
    go_ret;exact⟨zq2,zq50⟩
  ·rw[if_neg c5] at H
   have c5b0:(a0_0 == 2)=false:=BNM c5;have c5b1:(a0_0 != 2)=true:=bne_iff_ne.mpr c5;obtain rfl:=OSI H;go_enter Tryz.func112,Tryz.ntmps112
   go_wp2_with (first | ((with_reducible refine gate_dst (N:=1) rfl ?_);(try (refine gate_guard (by rfl) ?_;dsimp only));refine bZ 1 #[.int .i64 a0_0,.int .i64 a0_1,.string a0_2] 65 ?_;intro gb178 hg w11 hbox hb;have BK178:=Aside0.mk (hbox);have GW178:=GB HB hg;have GE178:=GW178;replace HB:=BB HB hb;clear hb hbox hg;obtain⟨hcz12_0,hcz12_1,hcz12_2,hfz12_0,hfz12_1,hfz12_2⟩:=bL3 BK178))
   go_ret;exact⟨zq2,zq50⟩
mutual
def r06_May.l0:Nat->List (S65)->Int->Option (Bool)
 | 0,_,_=>none
 | k+1,x0,x3=>if x3<(x0.length:Int) then (r06_May.j1 k x0 x3 (decide (x3<9))) else (r06_May.j1 k x0 x3 false)
def r06_May.j1:Nat->List (S65)->Int->Bool->Option (Bool)
 | 0,_,_,_=>none
 | k+1,x0,x3,x11=>if x11=true then (if 0<=x3 then (if x3<(x0.length:Int) then ((r05_May.f ((rd_T65 x0 x3).f0) ((rd_T65 x0 x3).f1) ((rd_T65 x0 x3).f2)).bind fun t180=>(if t180=true then (r06_May.l0 k x0 (wrap64 (x3+1))) else (some false))) else (none)) else (none)) else (some (decide ((x0.length:Int)<=8)))
end
def r06_May.f (k:Nat) (l0:List (S65)):Option (Bool):=r06_May.l0 k l0 0
theorem r06_May.calls (k:Nat) (A0:Option Addr) (c0:Nat) (l0:List (S65)) (r:Bool) (w:World) (hr0:Kd.C k65 w A0 l0.length l0) (hc0:l0.length<=c0) (h:r06_May.f k l0=some r) :
  Calls Tryz.prog 69 #[.slice A0 l0.length c0] w fun e w'=>e = .returned (.bool r)/\Below w.heap.size w w':=by
 have hu65:=Tryz.underlying65;have HR0:=Aside0.mk hr0;have HC0:=Aside0.mk hc0;clear hr0 hc0;have HB:=Aside0.mk (Below.refl w.heap.size w);have H:(r06_May.l0 k l0 0)=some r:=h;clear h;have H':=Aside0.mk H;clear H;go_enter Tryz.func69,Tryz.ntmps69;go_wp2
 go_loopg [3] k (fun kq v3 w'=>∃ (x3_1:Int),v3 = .int .i64 x3_1/\Aside0 (r06_May.l0 kq l0 x3_1=some r)/\Aside0 (kq<=k)/\Aside0 (Below w.heap.size w w'))
 case atStart=>exact⟨(0),zq3,H',⟨Nat.le_refl _⟩,⟨zq0⟩⟩
 case round =>
  clear H';obtain⟨x3_1,rfl,HA,HK1,HB⟩:=hrel;cases gk with
  | zero=>exact absurd HA.out (by simp[r06_May.l0])
  | succ k1 =>
   have H:=HA.out;clear HA;simp only[r06_May.l0] at H;have HC2:=Aside0.mk H;clear H
   go_upto_region 2 with (fail)
   go_cut [11] (fun v11 wc=>∃ (kq:Nat) (x11_1:Bool),v11 = .bool x11_1/\Aside0 (r06_May.j1 kq l0 x3_1 x11_1=some r)/\Aside0 (kq<=k1)/\Aside0 (Below w.heap.size w wc))
   case first =>
    have H:=HC2.out;clear HC2
    by_cases c3:x3_1<(l0.length:Int)
    ·rw[if_pos c3] at H
     have c3b0:decide (x3_1<(l0.length:Int))=true:=DET c3;clear c3
     (first | rw[c3b0] | (simp only[i64_w,i32_w];rw[c3b0]) | skip)
     have H':=Aside0.mk H;clear H;go_wp2
     go_meet
     case rel=>exact⟨_,(decide (x3_1<9)),zq3,H',⟨by have:=HK1.out;first | omega | exact Nat.le_refl _⟩,⟨zq0⟩⟩
    ·rw[if_neg c3] at H
     have c3b0:decide (x3_1<(l0.length:Int))=false:=DEF c3;clear c3
     (first | rw[c3b0] | (simp only[i64_w,i32_w];rw[c3b0]) | skip)
     have H':=Aside0.mk H;clear H;go_wp2
     go_meet
     case rel=>exact⟨_,(false),zq3,H',⟨by have:=HK1.out;first | omega | exact Nat.le_refl _⟩,⟨zq0⟩⟩
   case rest =>
    clear HC2
    try clear p2
    try clear c3
    try clear c3b0
    obtain⟨kq,x11_1,rfl,HA,HJ1,HB⟩:=hcut;cases kq with
    | zero=>exact absurd HA.out (by simp[r06_May.j1])
    | succ kj1 =>
     have H:=HA.out;clear HA;simp only[r06_May.j1] at H
     by_cases c4:x11_1=true
     ·subst c4
      have H1:(if 0<=x3_1 then (if x3_1<(l0.length:Int) then ((r05_May.f ((rd_T65 l0 x3_1).f0) ((rd_T65 l0 x3_1).f1) ((rd_T65 l0 x3_1).f2)).bind fun t180=>(if t180=true then (r06_May.l0 kj1 l0 (wrap64 (x3_1+1))) else (some false))) else (none)) else (none))=some r:=by rw[if_pos rfl] at H;exact H
      clear H;have H:=H1;clear H1
      by_cases c5:0<=x3_1
      ·rw[if_pos c5] at H
       have c5b0:decide (0<=x3_1)=true:=DET c5;clear c5
       by_cases c6:x3_1<(l0.length:Int)
       ·rw[if_pos c6] at H
        have c6b0:decide (x3_1<(l0.length:Int))=true:=DET c6;clear c6;replace H:=Option.bind_eq_some_iff.mp H;obtain⟨t180,A70,H⟩:=H;replace H:(if t180=true then (r06_May.l0 kj1 l0 (wrap64 (x3_1+1))) else (some false))=some r:=H;have A7:=Aside0.mk A70;clear A70
        by_cases c8:t180=true
        ·subst c8
         have H1:(r06_May.l0 kj1 l0 (wrap64 (x3_1+1)))=some r:=by rw[if_pos rfl] at H;exact H
         clear H;have H:=H1;clear H1;have H':=Aside0.mk H;clear H;have p179:0<=(x3_1:Int):=ODT zq1;have q179:x3_1<(l0.length:Int):=ODT zq1;obtain⟨ad179,e179,hx179_0,hx179_1,hx179_2⟩:=at_T65 HR0.out x3_1 p179 q179;cases e179;replace hx179_0:=hZ hx179_0 HB.out;replace hx179_1:=hZ hx179_1 HB.out;replace hx179_2:=hZ hx179_2 HB.out;replace p179:=eq_true p179;replace q179:=eq_true q179
         go_wp2_with (first | (refine gZ 18 Tryz.func112 #[.agg #[.int .i64 ((rd_T65 l0 x3_1).f0),.int .i64 ((rd_T65 l0 x3_1).f1),.string ((rd_T65 l0 x3_1).f2)]] ?_;(with_reducible refine (r05_May.calls ((rd_T65 l0 x3_1).f0) ((rd_T65 l0 x3_1).f1) ((rd_T65 l0 x3_1).f2) true _ A7.out).mono ?_);rintro e w9 ⟨rfl,hb⟩;refine⟨_,rfl,?_⟩;replace HB:=BB HB hb;(try clear hb)))
         go_roundg kj1
         case measure=>have:=HK1.out;have:=HJ1.out;omega
         case rel=>exact⟨(wrap64 (x3_1+1)),zq3,H',⟨by have:=HK1.out;have:=HJ1.out;omega⟩,⟨zq0⟩⟩
        ·replace c8:=Bool.eq_false_iff.mpr c8
         subst c8;have H1:(some false)=some r:=by rw[if_neg (show ¬ (false=true) by decide)] at H;exact H
         clear H;have H:=H1;clear H1;obtain rfl:=OSI H;have p179:0<=(x3_1:Int):=ODT zq1;have q179:x3_1<(l0.length:Int):=ODT zq1;obtain⟨ad179,e179,hx179_0,hx179_1,hx179_2⟩:=at_T65 HR0.out x3_1 p179 q179;cases e179;replace hx179_0:=hZ hx179_0 HB.out;replace hx179_1:=hZ hx179_1 HB.out;replace hx179_2:=hZ hx179_2 HB.out;replace p179:=eq_true p179;replace q179:=eq_true q179
         go_wp2_with (first | (refine gZ 18 Tryz.func112 #[.agg #[.int .i64 ((rd_T65 l0 x3_1).f0),.int .i64 ((rd_T65 l0 x3_1).f1),.string ((rd_T65 l0 x3_1).f2)]] ?_;(with_reducible refine (r05_May.calls ((rd_T65 l0 x3_1).f0) ((rd_T65 l0 x3_1).f1) ((rd_T65 l0 x3_1).f2) false _ A7.out).mono ?_);rintro e w10 ⟨rfl,hb⟩;refine⟨_,rfl,?_⟩;replace HB:=BB HB hb;(try clear hb)))
         go_ret;exact⟨zq2,zq0⟩
       ·rw[if_neg c6] at H
        exact absurd H zq30
      ·rw[if_neg c5] at H
       exact absurd H zq30
     ·replace c4:=Bool.eq_false_iff.mpr c4
      subst c4;have H1:(some (decide ((l0.length:Int)<=8)))=some r:=by rw[if_neg (show ¬ (false=true) by decide)] at H;exact H
      clear H;have H:=H1;clear H1;obtain rfl:=OSI H;go_wp2;go_ret;exact⟨zq2,zq0⟩
attribute [local go_sem] max2_int min2_int max_two min_two max_three min_three max_four min_four
mutual
def r05_Compare.j0:Nat->Bool->Int->Int->ByteArray->Int->Int->ByteArray->Option (Int)
 | 0,_,_,_,_,_,_,_=>none
 | k+1,x13,x182000,x182001,x182002,x183000,x183001,x183002=>if x13=true then (some 0) else (if x182000=x183000 then (if x182001=x183001 then (r05_Compare.l0 k 0 x182000 x182001 x182002 x183000 x183001 x183002) else (if x182001<x183001 then (some (-1)) else (some 1))) else (if x182000=1 then (some (-1)) else (some 1)))
def r05_Compare.l0:Nat->Int->Int->Int->ByteArray->Int->Int->ByteArray->Option (Int)
 | 0,_,_,_,_,_,_,_=>none
 | k+1,x5,x182000,x182001,x182002,x183000,x183001,x183002=>if x5<(x182002.size:Int) then (r05_Compare.j2 k x5 (decide (x5<(x183002.size:Int))) x182000 x182001 x182002 x183000 x183001 x183002) else (r05_Compare.j2 k x5 false x182000 x182001 x182002 x183000 x183001 x183002)
def r05_Compare.j2:Nat->Int->Bool->Int->Int->ByteArray->Int->Int->ByteArray->Option (Int)
 | 0,_,_,_,_,_,_,_,_=>none
 | k+1,x5,x43,x182000,x182001,x182002,x183000,x183001,x183002=>if x43=true then (if 0<=x5 then (if x5<(x182002.size:Int) then (if x5<(x183002.size:Int) then (if (bt x182002 x5)=(bt x183002 x5) then (r05_Compare.l0 k (wrap64 (x5+1)) x182000 x182001 x182002 x183000 x183001 x183002) else (if (bt x182002 x5)<(bt x183002 x5) then (some (-1)) else (some 1))) else (none)) else (none)) else (none)) else (if (x182002.size:Int)=(x183002.size:Int) then (some 0) else (if (x182002.size:Int)<(x183002.size:Int) then (some (-1)) else (some 1)))
end
def r05_Compare.f (k:Nat) (a0_0:Int) (a0_1:Int) (a0_2:ByteArray) (a1_0:Int) (a1_1:Int) (a1_2:ByteArray):Option (Int):=(r05_May.f a0_0 a0_1 a0_2).bind fun t183=>(if t183=true then ((r05_May.f a1_0 a1_1 a1_2).bind fun t184=>(r05_Compare.j0 k (!t184) a0_0 a0_1 a0_2 a1_0 a1_1 a1_2)) else (r05_Compare.j0 k true a0_0 a0_1 a0_2 a1_0 a1_1 a1_2))
theorem r05_Compare.calls (k:Nat) (a0_0:Int) (a0_1:Int) (a0_2:ByteArray) (a1_0:Int) (a1_1:Int) (a1_2:ByteArray) (r:Int) (w:World) (h:r05_Compare.f k a0_0 a0_1 a0_2 a1_0 a1_1 a1_2=some r) :
  Calls Tryz.prog 128 #[.agg #[.int .i64 a0_0,.int .i64 a0_1,.string a0_2],.agg #[.int .i64 a1_0,.int .i64 a1_1,.string a1_2]] w fun e w'=>e = .returned (.int .i64 r)/\Below w.heap.size w w':=by
 have hu65:=Tryz.underlying65;have HB:=Aside0.mk (Below.refl w.heap.size w);have H:((r05_May.f a0_0 a0_1 a0_2).bind fun t183=>(if t183=true then ((r05_May.f a1_0 a1_1 a1_2).bind fun t184=>(r05_Compare.j0 k (!t184) a0_0 a0_1 a0_2 a1_0 a1_1 a1_2)) else (r05_Compare.j0 k true a0_0 a0_1 a0_2 a1_0 a1_1 a1_2)))=some r:=h;clear h;have HC3:=Aside0.mk H;clear H;go_enter Tryz.func128,Tryz.ntmps128
 go_upto_region 1 with (first | ((with_reducible refine gate_dst (N:=2) rfl ?_);(try (refine gate_guard (by rfl) ?_;dsimp only));refine bZ 2 #[.int .i64 a0_0,.int .i64 a0_1,.string a0_2] 65 ?_;intro gb181 hg w4 hbox hb;have BK181:=Aside0.mk (hbox);have GW181:=GB HB hg;have GE181:=GW181;replace HB:=BB HB hb;clear hb hbox hg) | ((with_reducible refine gate_dst (N:=3) rfl ?_);(try (refine gate_guard (by rfl) ?_;dsimp only));refine bZ 3 #[.int .i64 a1_0,.int .i64 a1_1,.string a1_2] 65 ?_;intro gb182 hg w5 hbox hb;have BK182:=Aside0.mk (hbox);have GW182:=Aside0.mk (zq72);have GE182:=Aside0.mk (zq72);have NB181_182:=LB BK181 hg;have NB182_181:=MB BK181 hg;replace BK181:=KB BK181 hb;replace HB:=Aside0.mk (below_step zq23 hb);clear hb hbox hg))
 repeat (go_quiet (first | ((with_reducible refine gate_dst (N:=2) rfl ?_);(try (refine gate_guard (by rfl) ?_;dsimp only));refine bZ 2 #[.int .i64 a0_0,.int .i64 a0_1,.string a0_2] 65 ?_;intro gb181 hg w4 hbox hb;have BK181:=Aside0.mk (hbox);have GW181:=GB HB hg;have GE181:=GW181;replace HB:=BB HB hb;clear hb hbox hg) | ((with_reducible refine gate_dst (N:=3) rfl ?_);(try (refine gate_guard (by rfl) ?_;dsimp only));refine bZ 3 #[.int .i64 a1_0,.int .i64 a1_1,.string a1_2] 65 ?_;intro gb182 hg w5 hbox hb;have BK182:=Aside0.mk (hbox);have GW182:=Aside0.mk (zq72);have GE182:=Aside0.mk (zq72);have NB181_182:=LB BK181 hg;have NB182_181:=MB BK181 hg;replace BK181:=KB BK181 hb;replace HB:=Aside0.mk (below_step zq23 hb);clear hb hbox hg));go_upto_region 1 with (first | ((with_reducible refine gate_dst (N:=2) rfl ?_);(try (refine gate_guard (by rfl) ?_;dsimp only));refine bZ 2 #[.int .i64 a0_0,.int .i64 a0_1,.string a0_2] 65 ?_;intro gb181 hg w4 hbox hb;have BK181:=Aside0.mk (hbox);have GW181:=GB HB hg;have GE181:=GW181;replace HB:=BB HB hb;clear hb hbox hg) | ((with_reducible refine gate_dst (N:=3) rfl ?_);(try (refine gate_guard (by rfl) ?_;dsimp only));refine bZ 3 #[.int .i64 a1_0,.int .i64 a1_1,.string a1_2] 65 ?_;intro gb182 hg w5 hbox hb;have BK182:=Aside0.mk (hbox);have GW182:=Aside0.mk (zq72);have GE182:=Aside0.mk (zq72);have NB181_182:=LB BK181 hg;have NB182_181:=MB BK181 hg;replace BK181:=KB BK181 hb;replace HB:=Aside0.mk (below_step zq23 hb);clear hb hbox hg)))
 (try simp only[Act.put,List.setIfInBounds_toArray,List.set_cons_zero,List.set_cons_succ])
 go_cut [13] (fun v13 wc=>∃ (kq:Nat) (x13_2:Bool),v13 = .bool x13_2/\Aside0 (r05_Compare.j0 kq x13_2 a0_0 a0_1 a0_2 a1_0 a1_1 a1_2=some r)/\Aside0 (kq<=k)/\Aside0 (wc.heap[gb181]? = some (.cells #[.int .i64 a0_0,.int .i64 a0_1,.string a0_2] 65 (0,0)))/\Aside0 (wc.heap[gb182]? = some (.cells #[.int .i64 a1_0,.int .i64 a1_1,.string a1_2] 65 (0,0)))/\Aside0 (Below w.heap.size w wc))
 case first =>
  have H:=HC3.out;clear HC3;replace H:=Option.bind_eq_some_iff.mp H;obtain⟨t183,A60,H⟩:=H;replace H:(if t183=true then ((r05_May.f a1_0 a1_1 a1_2).bind fun t184=>(r05_Compare.j0 k (!t184) a0_0 a0_1 a0_2 a1_0 a1_1 a1_2)) else (r05_Compare.j0 k true a0_0 a0_1 a0_2 a1_0 a1_1 a1_2))=some r:=H;have A6:=Aside0.mk A60;clear A60
  by_cases c7:t183=true
  ·subst c7
   have H1:((r05_May.f a1_0 a1_1 a1_2).bind fun t184=>(r05_Compare.j0 k (!t184) a0_0 a0_1 a0_2 a1_0 a1_1 a1_2))=some r:=by rw[if_pos rfl] at H;exact H
   clear H;have H:=H1;clear H1;replace H:=Option.bind_eq_some_iff.mp H;obtain⟨t184,A80,H⟩:=H;replace H:(r05_Compare.j0 k (!t184) a0_0 a0_1 a0_2 a1_0 a1_1 a1_2)=some r:=H;have A8:=Aside0.mk A80;clear A80;have H':=Aside0.mk H;clear H;have hnb9:=NB181_182.out;have hnc9:=NB182_181.out;obtain⟨hcz10_0,hcz10_1,hcz10_2,hfz10_0,hfz10_1,hfz10_2⟩:=bL3 BK181
   go_wp2_with (first | (go_at_call 112;(with_reducible refine (r05_May.calls a0_0 a0_1 a0_2 true _ A6.out).mono ?_);rintro e w11 ⟨rfl,hb⟩;replace BK181:=KB BK181 hb;replace BK182:=KB BK182 hb;replace HB:=Aside0.mk (below_step zq8 hb);(try clear hb);obtain⟨hcz12_0,hcz12_1,hcz12_2,hfz12_0,hfz12_1,hfz12_2⟩:=bL3 BK182) | (go_at_call 112;(with_reducible refine (r05_May.calls a1_0 a1_1 a1_2 t184 _ A8.out).mono ?_);rintro e w13 ⟨rfl,hb⟩;replace BK181:=KB BK181 hb;replace BK182:=KB BK182 hb;replace HB:=Aside0.mk (below_step zq8 hb);(try clear hb)))
   repeat (go_quiet (first | (go_at_call 112;(with_reducible refine (r05_May.calls a0_0 a0_1 a0_2 true _ A6.out).mono ?_);rintro e w11 ⟨rfl,hb⟩;replace BK181:=KB BK181 hb;replace BK182:=KB BK182 hb;replace HB:=Aside0.mk (below_step zq8 hb);(try clear hb);obtain⟨hcz12_0,hcz12_1,hcz12_2,hfz12_0,hfz12_1,hfz12_2⟩:=bL3 BK182) | (go_at_call 112;(with_reducible refine (r05_May.calls a1_0 a1_1 a1_2 t184 _ A8.out).mono ?_);rintro e w13 ⟨rfl,hb⟩;replace BK181:=KB BK181 hb;replace BK182:=KB BK182 hb;replace HB:=Aside0.mk (below_step zq8 hb);(try clear hb)));try go_wp2_with (first | (go_at_call 112;(with_reducible refine (r05_May.calls a0_0 a0_1 a0_2 true _ A6.out).mono ?_);rintro e w11 ⟨rfl,hb⟩;replace BK181:=KB BK181 hb;replace BK182:=KB BK182 hb;replace HB:=Aside0.mk (below_step zq8 hb);(try clear hb);obtain⟨hcz12_0,hcz12_1,hcz12_2,hfz12_0,hfz12_1,hfz12_2⟩:=bL3 BK182) | (go_at_call 112;(with_reducible refine (r05_May.calls a1_0 a1_1 a1_2 t184 _ A8.out).mono ?_);rintro e w13 ⟨rfl,hb⟩;replace BK181:=KB BK181 hb;replace BK182:=KB BK182 hb;replace HB:=Aside0.mk (below_step zq8 hb);(try clear hb))))
   go_meet
   case rel=>exact⟨_,(!t184),zq3,H',⟨zq32⟩,⟨zq43⟩,⟨zq42⟩,⟨zq8⟩⟩
  ·replace c7:=Bool.eq_false_iff.mpr c7
   subst c7;have H1:(r05_Compare.j0 k true a0_0 a0_1 a0_2 a1_0 a1_1 a1_2)=some r:=by rw[if_neg (show ¬ (false=true) by decide)] at H;exact H
   clear H;have H:=H1;clear H1;have H':=Aside0.mk H;clear H;have hnb14:=NB181_182.out;have hnc14:=NB182_181.out;obtain⟨hcz15_0,hcz15_1,hcz15_2,hfz15_0,hfz15_1,hfz15_2⟩:=bL3 BK181
   go_wp2_with (first | (go_at_call 112;(with_reducible refine (r05_May.calls a0_0 a0_1 a0_2 false _ A6.out).mono ?_);rintro e w16 ⟨rfl,hb⟩;replace BK181:=KB BK181 hb;replace BK182:=KB BK182 hb;replace HB:=Aside0.mk (below_step zq8 hb);(try clear hb)))
   repeat (go_quiet (first | (go_at_call 112;(with_reducible refine (r05_May.calls a0_0 a0_1 a0_2 false _ A6.out).mono ?_);rintro e w16 ⟨rfl,hb⟩;replace BK181:=KB BK181 hb;replace BK182:=KB BK182 hb;replace HB:=Aside0.mk (below_step zq8 hb);(try clear hb)));try go_wp2_with (first | (go_at_call 112;(with_reducible refine (r05_May.calls a0_0 a0_1 a0_2 false _ A6.out).mono ?_);rintro e w16 ⟨rfl,hb⟩;replace BK181:=KB BK181 hb;replace BK182:=KB BK182 hb;replace HB:=Aside0.mk (below_step zq8 hb);(try clear hb))))
   go_meet
   case rel=>exact⟨_,(true),zq3,H',⟨zq32⟩,⟨zq43⟩,⟨zq42⟩,⟨zq8⟩⟩
 case rest =>
  clear HC3
  try clear c1
  try clear p2
  try clear c7
  try clear c9
  try clear c12
  try clear c14
  try clear hcz10_0
  try clear hcz10_1
  try clear hcz10_2
  try clear hcz12_0
  try clear hcz12_1
  try clear hcz12_2
  try clear hcz15_0
  try clear hcz15_1
  try clear hcz15_2
  try clear hfz10_0
  try clear hfz10_1
  try clear hfz10_2
  try clear hfz12_0
  try clear hfz12_1
  try clear hfz12_2
  try clear hfz15_0
  try clear hfz15_1
  try clear hfz15_2
  obtain⟨kq,x13_2,rfl,HA,HJ2,BK181,BK182,HB⟩:=hcut;cases kq with
  | zero=>exact absurd HA.out (by simp[r05_Compare.j0])
  | succ kj2 =>
   have H:=HA.out;clear HA;simp only[r05_Compare.j0] at H
   by_cases c17:x13_2=true
   ·subst c17
    have H1:(some 0)=some r:=by rw[if_pos rfl] at H;exact H
    clear H;have H:=H1;clear H1;obtain rfl:=OSI H;go_wp2
    repeat (go_quiet (fail);try go_wp2)
    go_ret;exact⟨zq2,zq8⟩
   ·replace c17:=Bool.eq_false_iff.mpr c17
    subst c17;have H1:(if a0_0=a1_0 then (if a0_1=a1_1 then (r05_Compare.l0 kj2 0 a0_0 a0_1 a0_2 a1_0 a1_1 a1_2) else (if a0_1<a1_1 then (some (-1)) else (some 1))) else (if a0_0=1 then (some (-1)) else (some 1)))=some r:=by rw[if_neg (show ¬ (false=true) by decide)] at H;exact H
    clear H;have H:=H1;clear H1
    by_cases c18:a0_0=a1_0
    ·rw[if_pos c18] at H
     have c18b0:(a0_0 == a1_0)=true:=beq_iff_eq.mpr c18;have c18b1:(a0_0 != a1_0)=false:=bne_eq_false_iff_eq.mpr c18;clear c18
     by_cases c19:a0_1=a1_1
     ·rw[if_pos c19] at H
      have c19b0:(a0_1 == a1_1)=true:=beq_iff_eq.mpr c19;have c19b1:(a0_1 != a1_1)=false:=bne_eq_false_iff_eq.mpr c19;clear c19;have H':=Aside0.mk H;clear H;have hnb20:=NB181_182.out;have hnc20:=NB182_181.out;obtain⟨hcz21_0,hcz21_1,hcz21_2,hfz21_0,hfz21_1,hfz21_2⟩:=bL3 BK181;obtain⟨hcz22_0,hcz22_1,hcz22_2,hfz22_0,hfz22_1,hfz22_2⟩:=bL3 BK182;go_wp2
      repeat (go_quiet (fail);try go_wp2)
      go_loopg [5] kj2 (fun kq v5 w'=>∃ (x5_2:Int),v5 = .int .i64 x5_2/\Aside0 (r05_Compare.l0 kq x5_2 a0_0 a0_1 a0_2 a1_0 a1_1 a1_2=some r)/\Aside0 (kq<=kj2)/\Aside0 (w'.heap[gb181]? = some (.cells #[.int .i64 a0_0,.int .i64 a0_1,.string a0_2] 65 (0,0)))/\Aside0 (w'.heap[gb182]? = some (.cells #[.int .i64 a1_0,.int .i64 a1_1,.string a1_2] 65 (0,0)))/\Aside0 (Below w.heap.size w w'))
      case atStart=>exact⟨(0),zq3,H',⟨Nat.le_refl _⟩,⟨zq43⟩,⟨zq42⟩,⟨zq8⟩⟩
      case round =>
       clear H'
       try clear c1
       try clear c2
       try clear p2
       try clear c7
       try clear c9
       try clear c12
       try clear c14
       try clear c17
       try clear c18
       try clear c18b0
       try clear c18b1
       try clear c19
       try clear c19b0
       try clear c19b1
       try clear c20
       try clear hcz10_0
       try clear hcz10_1
       try clear hcz10_2
       try clear hcz12_0
       try clear hcz12_1
       try clear hcz12_2
       try clear hcz15_0
       try clear hcz15_1
       try clear hcz15_2
       try clear hcz21_0
       try clear hcz21_1
       try clear hcz21_2
       try clear hcz22_0
       try clear hcz22_1
       try clear hcz22_2
       try clear hfz10_0
       try clear hfz10_1
       try clear hfz10_2
       try clear hfz12_0
       try clear hfz12_1
       try clear hfz12_2
       try clear hfz15_0
       try clear hfz15_1
       try clear hfz15_2
       try clear hfz21_0
       try clear hfz21_1
       try clear hfz21_2
       try clear hfz22_0
       try clear hfz22_1
       try clear hfz22_2
       try clear p2
       obtain⟨x5_2,rfl,HA,HK2,BK181,BK182,HB⟩:=hrel;cases gk with
       | zero=>exact absurd HA.out (by simp[r05_Compare.l0])
       | succ k2 =>
        have H:=HA.out;clear HA;simp only[r05_Compare.l0] at H;have HC23:=Aside0.mk H;clear H
        go_upto_region 12 with (fail)
        repeat (go_quiet (fail);go_upto_region 12 with (fail))
        go_cut [43] (fun v43 wc=>∃ (kq:Nat) (x43_22:Bool),v43 = .bool x43_22/\Aside0 (r05_Compare.j2 kq x5_2 x43_22 a0_0 a0_1 a0_2 a1_0 a1_1 a1_2=some r)/\Aside0 (kq<=k2)/\Aside0 (wc.heap[gb181]? = some (.cells #[.int .i64 a0_0,.int .i64 a0_1,.string a0_2] 65 (0,0)))/\Aside0 (wc.heap[gb182]? = some (.cells #[.int .i64 a1_0,.int .i64 a1_1,.string a1_2] 65 (0,0)))/\Aside0 (Below w.heap.size w wc))
        case first =>
         have H:=HC23.out;clear HC23
         by_cases c24:x5_2<(a0_2.size:Int)
         ·rw[if_pos c24] at H
          have c24b0:decide (x5_2<(a0_2.size:Int))=true:=DET c24;clear c24
          (first | rw[c24b0] | (simp only[i64_w,i32_w];rw[c24b0]) | skip)
          have H':=Aside0.mk H;clear H;have hnb25:=NB181_182.out;have hnc25:=NB182_181.out;obtain⟨hcz26_0,hcz26_1,hcz26_2,hfz26_0,hfz26_1,hfz26_2⟩:=bL3 BK181;obtain⟨hcz27_0,hcz27_1,hcz27_2,hfz27_0,hfz27_1,hfz27_2⟩:=bL3 BK182;go_wp2
          repeat (go_quiet (fail);try go_wp2)
          go_meet
          case rel=>exact⟨_,(decide (x5_2<(a1_2.size:Int))),zq3,H',⟨by have:=HJ2.out;have:=HK2.out;first | omega | exact Nat.le_refl _⟩,⟨zq43⟩,⟨zq42⟩,⟨zq8⟩⟩
         ·rw[if_neg c24] at H
          have c24b0:decide (x5_2<(a0_2.size:Int))=false:=DEF c24;clear c24
          (first | rw[c24b0] | (simp only[i64_w,i32_w];rw[c24b0]) | skip)
          have H':=Aside0.mk H;clear H;have hnb28:=NB181_182.out;have hnc28:=NB182_181.out;obtain⟨hcz29_0,hcz29_1,hcz29_2,hfz29_0,hfz29_1,hfz29_2⟩:=bL3 BK181;go_wp2
          repeat (go_quiet (fail);try go_wp2)
          go_meet
          case rel=>exact⟨_,(false),zq3,H',⟨by have:=HJ2.out;have:=HK2.out;first | omega | exact Nat.le_refl _⟩,⟨zq43⟩,⟨zq42⟩,⟨zq8⟩⟩
        case rest =>
         clear HC23
         try clear c1
         try clear c2
         try clear p2
         try clear c7
         try clear c9
         try clear c12
         try clear c14
         try clear c17
         try clear c18
         try clear c18b0
         try clear c18b1
         try clear c19
         try clear c19b0
         try clear c19b1
         try clear c20
         try clear c24
         try clear c24b0
         try clear c25
         try clear c28
         try clear hcz10_0
         try clear hcz10_1
         try clear hcz10_2
         try clear hcz12_0
         try clear hcz12_1
         try clear hcz12_2
         try clear hcz15_0
         try clear hcz15_1
         try clear hcz15_2
         try clear hcz21_0
         try clear hcz21_1
         try clear hcz21_2
         try clear hcz22_0
         try clear hcz22_1
         try clear hcz22_2
         try clear hcz26_0
         try clear hcz26_1
         try clear hcz26_2
         try clear hcz27_0
         try clear hcz27_1
         try clear hcz27_2
         try clear hcz29_0
         try clear hcz29_1
         try clear hcz29_2
         try clear hfz10_0
         try clear hfz10_1
         try clear hfz10_2
         try clear hfz12_0
         try clear hfz12_1
         try clear hfz12_2
         try clear hfz15_0
         try clear hfz15_1
         try clear hfz15_2
         try clear hfz21_0
         try clear hfz21_1
         try clear hfz21_2
         try clear hfz22_0
         try clear hfz22_1
         try clear hfz22_2
         try clear hfz26_0
         try clear hfz26_1
         try clear hfz26_2
         try clear hfz27_0
         try clear hfz27_1
         try clear hfz27_2
         try clear hfz29_0
         try clear hfz29_1
         try clear hfz29_2
         try clear p2
         obtain⟨kq,x43_22,rfl,HA,HJ22,BK181,BK182,HB⟩:=hcut;cases kq with
         | zero=>exact absurd HA.out (by simp[r05_Compare.j2])
         | succ kj22 =>
          have H:=HA.out;clear HA;simp only[r05_Compare.j2] at H
          by_cases c30:x43_22=true
          ·subst c30
           have H1:(if 0<=x5_2 then (if x5_2<(a0_2.size:Int) then (if x5_2<(a1_2.size:Int) then (if (bt a0_2 x5_2)=(bt a1_2 x5_2) then (r05_Compare.l0 kj22 (wrap64 (x5_2+1)) a0_0 a0_1 a0_2 a1_0 a1_1 a1_2) else (if (bt a0_2 x5_2)<(bt a1_2 x5_2) then (some (-1)) else (some 1))) else (none)) else (none)) else (none))=some r:=by rw[if_pos rfl] at H;exact H
           clear H;have H:=H1;clear H1
           by_cases c31:0<=x5_2
           ·rw[if_pos c31] at H
            have c31b0:decide (0<=x5_2)=true:=DET c31;clear c31
            by_cases c32:x5_2<(a0_2.size:Int)
            ·rw[if_pos c32] at H
             have c32b0:decide (x5_2<(a0_2.size:Int))=true:=DET c32;clear c32
             by_cases c34:x5_2<(a1_2.size:Int)
             ·rw[if_pos c34] at H
              have c34b0:decide (x5_2<(a1_2.size:Int))=true:=DET c34;clear c34
              by_cases c36:(bt a0_2 x5_2)=(bt a1_2 x5_2)
              ·rw[if_pos c36] at H
               have c36b0:((bt a0_2 x5_2) == (bt a1_2 x5_2))=true:=beq_iff_eq.mpr c36;have c36b1:((bt a0_2 x5_2) != (bt a1_2 x5_2))=false:=bne_eq_false_iff_eq.mpr c36;clear c36;have H':=Aside0.mk H;clear H;have hnb37:=NB181_182.out;have hnc37:=NB182_181.out;obtain⟨hcz38_0,hcz38_1,hcz38_2,hfz38_0,hfz38_1,hfz38_2⟩:=bL3 BK181;have p33:0<=(x5_2:Int):=ODT zq1;have q33:x5_2<(a0_2.size:Int):=ODT zq1;have hx33:=bt_at a0_2 x5_2;replace p33:=eq_true p33;replace q33:=eq_true q33;obtain⟨hcz39_0,hcz39_1,hcz39_2,hfz39_0,hfz39_1,hfz39_2⟩:=bL3 BK182;have p35:0<=(x5_2:Int):=ODT zq1;have q35:x5_2<(a1_2.size:Int):=ODT zq1;have hx35:=bt_at a1_2 x5_2;replace p35:=eq_true p35;replace q35:=eq_true q35;go_wp2
               repeat (go_quiet (fail);try go_wp2)
               go_roundg kj22
               case measure=>have:=HJ2.out;have:=HK2.out;have:=HJ22.out;omega
               case rel=>exact⟨(wrap64 (x5_2+1)),zq3,H',⟨by have:=HJ2.out;have:=HK2.out;have:=HJ22.out;omega⟩,⟨zq43⟩,⟨zq42⟩,⟨zq8⟩⟩
              ·rw[if_neg c36] at H
               have c36b0:((bt a0_2 x5_2) == (bt a1_2 x5_2))=false:=BNM c36;have c36b1:((bt a0_2 x5_2) != (bt a1_2 x5_2))=true:=bne_iff_ne.mpr c36
               by_cases c42:(bt a0_2 x5_2)<(bt a1_2 x5_2)
               ·rw[if_pos c42] at H
                have c42b0:decide ((bt a0_2 x5_2)<(bt a1_2 x5_2))=true:=DET c42;clear c42;obtain rfl:=OSI H;have hnb43:=NB181_182.out;have hnc43:=NB182_181.out;obtain⟨hcz44_0,hcz44_1,hcz44_2,hfz44_0,hfz44_1,hfz44_2⟩:=bL3 BK181;have p33:0<=(x5_2:Int):=ODT zq1;have q33:x5_2<(a0_2.size:Int):=ODT zq1;have hx33:=bt_at a0_2 x5_2;replace p33:=eq_true p33;replace q33:=eq_true q33;obtain⟨hcz45_0,hcz45_1,hcz45_2,hfz45_0,hfz45_1,hfz45_2⟩:=bL3 BK182;have p35:0<=(x5_2:Int):=ODT zq1;have q35:x5_2<(a1_2.size:Int):=ODT zq1;have hx35:=bt_at a1_2 x5_2;replace p35:=eq_true p35;replace q35:=eq_true q35;have p40:0<=(x5_2:Int):=ODT zq1;have q40:x5_2<(a0_2.size:Int):=ODT zq1;have hx40:=bt_at a0_2 x5_2;replace p40:=eq_true p40;replace q40:=eq_true q40;have p41:0<=(x5_2:Int):=ODT zq1;have q41:x5_2<(a1_2.size:Int):=ODT zq1;have hx41:=bt_at a1_2 x5_2;replace p41:=eq_true p41;replace q41:=eq_true q41;go_wp2
                repeat (go_quiet (fail);try go_wp2)
                go_ret;exact⟨zq2,zq8⟩
               ·rw[if_neg c42] at H
                have c42b0:decide ((bt a0_2 x5_2)<(bt a1_2 x5_2))=false:=DEF c42;clear c42;obtain rfl:=OSI H;have hnb46:=NB181_182.out;have hnc46:=NB182_181.out;obtain⟨hcz47_0,hcz47_1,hcz47_2,hfz47_0,hfz47_1,hfz47_2⟩:=bL3 BK181;have p33:0<=(x5_2:Int):=ODT zq1;have q33:x5_2<(a0_2.size:Int):=ODT zq1;have hx33:=bt_at a0_2 x5_2;replace p33:=eq_true p33;replace q33:=eq_true q33;obtain⟨hcz48_0,hcz48_1,hcz48_2,hfz48_0,hfz48_1,hfz48_2⟩:=bL3 BK182;have p35:0<=(x5_2:Int):=ODT zq1;have q35:x5_2<(a1_2.size:Int):=ODT zq1;have hx35:=bt_at a1_2 x5_2;replace p35:=eq_true p35;replace q35:=eq_true q35;have p40:0<=(x5_2:Int):=ODT zq1;have q40:x5_2<(a0_2.size:Int):=ODT zq1;have hx40:=bt_at a0_2 x5_2;replace p40:=eq_true p40;replace q40:=eq_true q40;have p41:0<=(x5_2:Int):=ODT zq1;have q41:x5_2<(a1_2.size:Int):=ODT zq1;have hx41:=bt_at a1_2 x5_2;replace p41:=eq_true p41;replace q41:=eq_true q41;go_wp2
                repeat (go_quiet (fail);try go_wp2)
                go_ret;exact⟨zq2,zq8⟩
             ·rw[if_neg c34] at H
              exact absurd H zq30
            ·rw[if_neg c32] at H
             exact absurd H zq30
           ·rw[if_neg c31] at H
            exact absurd H zq30
          ·replace c30:=Bool.eq_false_iff.mpr c30
           subst c30;have H1:(if (a0_2.size:Int)=(a1_2.size:Int) then (some 0) else (if (a0_2.size:Int)<(a1_2.size:Int) then (some (-1)) else (some 1)))=some r:=by rw[if_neg (show ¬ (false=true) by decide)] at H;exact H
           clear H;have H:=H1;clear H1
           by_cases c49:(a0_2.size:Int)=(a1_2.size:Int)
           ·rw[if_pos c49] at H
            have c49b0:((a0_2.size:Int) == (a1_2.size:Int))=true:=beq_iff_eq.mpr c49;have c49b1:((a0_2.size:Int) != (a1_2.size:Int))=false:=bne_eq_false_iff_eq.mpr c49;have c49b2:(a0_2.size == a1_2.size)=true:=by first | simpa using c49 | (simp at c49 ⊢;omega)
            clear c49;obtain rfl:=OSI H;have hnb50:=NB181_182.out;have hnc50:=NB182_181.out;obtain⟨hcz51_0,hcz51_1,hcz51_2,hfz51_0,hfz51_1,hfz51_2⟩:=bL3 BK181;obtain⟨hcz52_0,hcz52_1,hcz52_2,hfz52_0,hfz52_1,hfz52_2⟩:=bL3 BK182;go_wp2
            repeat (go_quiet (fail);try go_wp2)
            go_ret;exact⟨zq2,zq8⟩
           ·rw[if_neg c49] at H
            have c49b0:((a0_2.size:Int) == (a1_2.size:Int))=false:=BNM c49;have c49b1:((a0_2.size:Int) != (a1_2.size:Int))=true:=bne_iff_ne.mpr c49;have c49b2:(a0_2.size == a1_2.size)=false:=by first | simpa using c49 | (simp at c49 ⊢;omega)
            by_cases c53:(a0_2.size:Int)<(a1_2.size:Int)
            ·rw[if_pos c53] at H
             have c53b0:decide ((a0_2.size:Int)<(a1_2.size:Int))=true:=DET c53;have c53b1:decide (a0_2.size<a1_2.size)=true:=DET (Int.ofNat_lt.mp c53);clear c53;obtain rfl:=OSI H;have hnb54:=NB181_182.out;have hnc54:=NB182_181.out;obtain⟨hcz55_0,hcz55_1,hcz55_2,hfz55_0,hfz55_1,hfz55_2⟩:=bL3 BK181;obtain⟨hcz56_0,hcz56_1,hcz56_2,hfz56_0,hfz56_1,hfz56_2⟩:=bL3 BK182;go_wp2
             repeat (go_quiet (fail);try go_wp2)
             go_ret;exact⟨zq2,zq8⟩
            ·rw[if_neg c53] at H
             have c53b0:decide ((a0_2.size:Int)<(a1_2.size:Int))=false:=DEF c53;have c53b1:decide (a0_2.size<a1_2.size)=false:=DEF (fun h=>c53 (Int.ofNat_lt.mpr h));clear c53;obtain rfl:=OSI H;have hnb57:=NB181_182.out;have hnc57:=NB182_181.out;obtain⟨hcz58_0,hcz58_1,hcz58_2,hfz58_0,hfz58_1,hfz58_2⟩:=bL3 BK181;obtain⟨hcz59_0,hcz59_1,hcz59_2,hfz59_0,hfz59_1,hfz59_2⟩:=bL3 BK182;go_wp2
             repeat (go_quiet (fail);try go_wp2)
             go_ret;exact⟨zq2,zq8⟩
     ·rw[if_neg c19] at H
      have c19b0:(a0_1 == a1_1)=false:=BNM c19;have c19b1:(a0_1 != a1_1)=true:=bne_iff_ne.mpr c19
      by_cases c60:a0_1<a1_1
      ·rw[if_pos c60] at H
       have c60b0:decide (a0_1<a1_1)=true:=DET c60;clear c60;obtain rfl:=OSI H;have hnb61:=NB181_182.out;have hnc61:=NB182_181.out;obtain⟨hcz62_0,hcz62_1,hcz62_2,hfz62_0,hfz62_1,hfz62_2⟩:=bL3 BK181;obtain⟨hcz63_0,hcz63_1,hcz63_2,hfz63_0,hfz63_1,hfz63_2⟩:=bL3 BK182;go_wp2
       repeat (go_quiet (fail);try go_wp2)
       go_ret;exact⟨zq2,zq8⟩
      ·rw[if_neg c60] at H
       have c60b0:decide (a0_1<a1_1)=false:=DEF c60;clear c60;obtain rfl:=OSI H;have hnb64:=NB181_182.out;have hnc64:=NB182_181.out;obtain⟨hcz65_0,hcz65_1,hcz65_2,hfz65_0,hfz65_1,hfz65_2⟩:=bL3 BK181;obtain⟨hcz66_0,hcz66_1,hcz66_2,hfz66_0,hfz66_1,hfz66_2⟩:=bL3 BK182;go_wp2
       repeat (go_quiet (fail);try go_wp2)
       go_ret;exact⟨zq2,zq8⟩
    ·rw[if_neg c18] at H
     have c18b0:(a0_0 == a1_0)=false:=BNM c18;have c18b1:(a0_0 != a1_0)=true:=bne_iff_ne.mpr c18
     by_cases c67:a0_0=1
     ·rw[if_pos c67] at H
      have c67b0:(a0_0 == 1)=true:=beq_iff_eq.mpr c67;have c67b1:(a0_0 != 1)=false:=bne_eq_false_iff_eq.mpr c67;clear c67;obtain rfl:=OSI H;have hnb68:=NB181_182.out;have hnc68:=NB182_181.out;obtain⟨hcz69_0,hcz69_1,hcz69_2,hfz69_0,hfz69_1,hfz69_2⟩:=bL3 BK181;obtain⟨hcz70_0,hcz70_1,hcz70_2,hfz70_0,hfz70_1,hfz70_2⟩:=bL3 BK182;go_wp2
      repeat (go_quiet (fail);try go_wp2)
      go_ret;exact⟨zq2,zq8⟩
     ·rw[if_neg c67] at H
      have c67b0:(a0_0 == 1)=false:=BNM c67;have c67b1:(a0_0 != 1)=true:=bne_iff_ne.mpr c67;obtain rfl:=OSI H;have hnb71:=NB181_182.out;have hnc71:=NB182_181.out;obtain⟨hcz72_0,hcz72_1,hcz72_2,hfz72_0,hfz72_1,hfz72_2⟩:=bL3 BK181;obtain⟨hcz73_0,hcz73_1,hcz73_2,hfz73_0,hfz73_1,hfz73_2⟩:=bL3 BK182;go_wp2
      repeat (go_quiet (fail);try go_wp2)
      go_ret;exact⟨zq2,zq8⟩
attribute [local go_sem] max2_int min2_int max_two min_two max_three min_three max_four min_four
mutual
def r06_Compare.j0:Nat->List (S65)->List (S65)->Bool->Option (Int)
 | 0,_,_,_=>none
 | k+1,x0,x1,x14=>if x14=true then (some 0) else (r06_Compare.l0 k x0 x1 0)
def r06_Compare.l0:Nat->List (S65)->List (S65)->Int->Option (Int)
 | 0,_,_,_=>none
 | k+1,x0,x1,x5=>if x5<(x0.length:Int) then (r06_Compare.j2 k x0 x1 x5 (decide (x5<(x1.length:Int)))) else (r06_Compare.j2 k x0 x1 x5 false)
def r06_Compare.j2:Nat->List (S65)->List (S65)->Int->Bool->Option (Int)
 | 0,_,_,_,_=>none
 | k+1,x0,x1,x5,x24=>if x24=true then (if 0<=x5 then (if x5<(x0.length:Int) then (if x5<(x1.length:Int) then ((r05_Compare.f k ((rd_T65 x0 x5).f0) ((rd_T65 x0 x5).f1) ((rd_T65 x0 x5).f2) ((rd_T65 x1 x5).f0) ((rd_T65 x1 x5).f1) ((rd_T65 x1 x5).f2)).bind fun t189=>(if t189=0 then (r06_Compare.l0 k x0 x1 (wrap64 (x5+1))) else (some t189))) else (none)) else (none)) else (none)) else (if (x0.length:Int)<(x1.length:Int) then (some (-1)) else (if (x0.length:Int) > (x1.length:Int) then (some 1) else (some 0)))
end
def r06_Compare.f (k:Nat) (l0:List (S65)) (l1:List (S65)):Option (Int):=(r06_May.f k l0).bind fun t185=>(if t185=true then ((r06_May.f k l1).bind fun t186=>(r06_Compare.j0 k l0 l1 (!t186))) else (r06_Compare.j0 k l0 l1 true))
def r06_Compare.T6:Bool × List (List Nat × List Nat):=(true,[([],[]),([],[]),([0,1],[0,1]),([2],[2]),([],[]),([],[]),([4,5],[4,5]),([6],[6]),([3,7],[3,7]),([8,8,0,1,2,3,4,5,6,7,8],[8])])
def r06_Compare.B6:List Nat:=[0,0,3,7,0,0,48,112,255,511]
theorem r06_Compare.tab6:rtab .any (opsOf Tryz.f87 6)=r06_Compare.T6:=by kernel_rfl
theorem r06_Compare.bits6:waitsOk r06_Compare.T6.2 r06_Compare.B6=true:=by kernel_rfl
theorem r06_Compare.calls (k:Nat) (A0:Option Addr) (c0:Nat) (l0:List (S65)) (A1:Option Addr) (c1:Nat) (l1:List (S65)) (r:Int) (w:World) (hr0:Kd.C k65 w A0 l0.length l0) (hc0:l0.length<=c0) (hr1:Kd.C k65 w A1 l1.length l1) (hc1:l1.length<=c1) (h:r06_Compare.f k l0 l1=some r) :
  Calls Tryz.prog 87 #[.slice A0 l0.length c0,.slice A1 l1.length c1] w fun e w'=>e = .returned (.int .i64 r)/\Below w.heap.size w w':=by
 have hu65:=Tryz.underlying65;have HR0:=Aside0.mk hr0;have HC0:=Aside0.mk hc0;clear hr0 hc0;have HR1:=Aside0.mk hr1;have HC1:=Aside0.mk hc1;clear hr1 hc1;have HB:=Aside0.mk (Below.refl w.heap.size w);have H:((r06_May.f k l0).bind fun t185=>(if t185=true then ((r06_May.f k l1).bind fun t186=>(r06_Compare.j0 k l0 l1 (!t186))) else (r06_Compare.j0 k l0 l1 true)))=some r:=h;clear h;have HC3:=Aside0.mk H;clear H;go_enter Tryz.func87,Tryz.ntmps87
 go_upto_region 1 with (fail)
 go_cut [14] (fun v14 wc=>∃ (kq:Nat) (x14_2:Bool),v14 = .bool x14_2/\Aside0 (r06_Compare.j0 kq l0 l1 x14_2=some r)/\Aside0 (kq<=k)/\Aside0 (Below w.heap.size w wc))
 case first =>
  have H:=HC3.out;clear HC3;replace H:=Option.bind_eq_some_iff.mp H;obtain⟨t185,A40,H⟩:=H;replace H:(if t185=true then ((r06_May.f k l1).bind fun t186=>(r06_Compare.j0 k l0 l1 (!t186))) else (r06_Compare.j0 k l0 l1 true))=some r:=H;have A4:=Aside0.mk A40;clear A40
  by_cases c5:t185=true
  ·subst c5
   have H1:((r06_May.f k l1).bind fun t186=>(r06_Compare.j0 k l0 l1 (!t186)))=some r:=by rw[if_pos rfl] at H;exact H
   clear H;have H:=H1;clear H1;replace H:=Option.bind_eq_some_iff.mp H;obtain⟨t186,A60,H⟩:=H;replace H:(r06_Compare.j0 k l0 l1 (!t186))=some r:=H;have A6:=Aside0.mk A60;clear A60;have H':=Aside0.mk H;clear H
   go_wp2_with (first | (refine gZ 8 Tryz.func69 #[.slice A0 l0.length c0] ?_;(with_reducible refine (r06_May.calls k _ _ l0 true _ ?side1 ?side2 A4.out).mono ?_);(case side1=>exact cQ (Kd.C_below HR0.out HB.out));(case side2=>exact HC0.out);rintro e w7 ⟨rfl,hb⟩;refine⟨_,rfl,?_⟩;replace HB:=BB HB hb;(try clear hb)) | (go_at_call 69;(with_reducible refine (r06_May.calls k _ _ l1 t186 _ ?side1 ?side2 A6.out).mono ?_);(case side1=>exact cQ (Kd.C_below HR1.out HB.out));(case side2=>exact HC1.out);rintro e w8 ⟨rfl,hb⟩;replace HB:=BB HB hb;(try clear hb)))
   go_meet
   case rel=>exact⟨_,(!t186),zq3,H',⟨zq32⟩,⟨zq0⟩⟩
  ·replace c5:=Bool.eq_false_iff.mpr c5
   subst c5;have H1:(r06_Compare.j0 k l0 l1 true)=some r:=by rw[if_neg (show ¬ (false=true) by decide)] at H;exact H
   clear H;have H:=H1;clear H1;have H':=Aside0.mk H;clear H
   go_wp2_with (first | (refine gZ 8 Tryz.func69 #[.slice A0 l0.length c0] ?_;(with_reducible refine (r06_May.calls k _ _ l0 false _ ?side1 ?side2 A4.out).mono ?_);(case side1=>exact cQ (Kd.C_below HR0.out HB.out));(case side2=>exact HC0.out);rintro e w9 ⟨rfl,hb⟩;refine⟨_,rfl,?_⟩;replace HB:=BB HB hb;(try clear hb)))
   go_meet
   case rel=>exact⟨_,(true),zq3,H',⟨zq32⟩,⟨zq0⟩⟩
 case rest =>
  clear HC3
  try clear c1
  try clear p2
  try clear c5
  try clear c6
  try clear c8
  obtain⟨kq,x14_2,rfl,HA,HJ2,HB⟩:=hcut;cases kq with
  | zero=>exact absurd HA.out (by simp[r06_Compare.j0])
  | succ kj2 =>
   have H:=HA.out;clear HA;simp only[r06_Compare.j0] at H
   by_cases c10:x14_2=true
   ·subst c10
    have H1:(some 0)=some r:=by rw[if_pos rfl] at H;exact H
    clear H;have H:=H1;clear H1;obtain rfl:=OSI H;go_wp2;go_ret;exact⟨zq2,zq0⟩
   ·replace c10:=Bool.eq_false_iff.mpr c10
    subst c10;have H1:(r06_Compare.l0 kj2 l0 l1 0)=some r:=by rw[if_neg (show ¬ (false=true) by decide)] at H;exact H
    clear H;have H:=H1;clear H1;have H':=Aside0.mk H;clear H;go_wp2
    go_loopg [5] kj2 (fun kq v5 w'=>∃ (x5_2:Int),v5 = .int .i64 x5_2/\Aside0 (r06_Compare.l0 kq l0 l1 x5_2=some r)/\Aside0 (kq<=kj2)/\Aside0 (Below w.heap.size w w'))
    case atStart=>exact⟨(0),zq3,H',⟨Nat.le_refl _⟩,⟨zq0⟩⟩
    case round =>
     clear H'
     try clear c1
     try clear p2
     try clear c5
     try clear c6
     try clear c8
     try clear c10
     try clear p2
     obtain⟨x5_2,rfl,HA,HK2,HB⟩:=hrel;cases gk with
     | zero=>exact absurd HA.out (by simp[r06_Compare.l0])
     | succ k2 =>
      have H:=HA.out;clear HA;simp only[r06_Compare.l0] at H;have HC11:=Aside0.mk H;clear H
      go_upto_region 4 with (fail)
      go_cut [24] (fun v24 wc=>∃ (kq:Nat) (x24_10:Bool),v24 = .bool x24_10/\Aside0 (r06_Compare.j2 kq l0 l1 x5_2 x24_10=some r)/\Aside0 (kq<=k2)/\Aside0 (Below w.heap.size w wc))
      case first =>
       have H:=HC11.out;clear HC11
       by_cases c12:x5_2<(l0.length:Int)
       ·rw[if_pos c12] at H
        have c12b0:decide (x5_2<(l0.length:Int))=true:=DET c12;clear c12
        (first | rw[c12b0] | (simp only[i64_w,i32_w];rw[c12b0]) | skip)
        have H':=Aside0.mk H;clear H;go_wp2
        go_meet
        case rel=>exact⟨_,(decide (x5_2<(l1.length:Int))),zq3,H',⟨by have:=HJ2.out;have:=HK2.out;first | omega | exact Nat.le_refl _⟩,⟨zq0⟩⟩
       ·rw[if_neg c12] at H
        have c12b0:decide (x5_2<(l0.length:Int))=false:=DEF c12;clear c12
        (first | rw[c12b0] | (simp only[i64_w,i32_w];rw[c12b0]) | skip)
        have H':=Aside0.mk H;clear H;go_wp2
        go_meet
        case rel=>exact⟨_,(false),zq3,H',⟨by have:=HJ2.out;have:=HK2.out;first | omega | exact Nat.le_refl _⟩,⟨zq0⟩⟩
      case rest =>
       clear HC11
       try clear c1
       try clear p2
       try clear c5
       try clear c6
       try clear c8
       try clear c10
       try clear c12
       try clear c12b0
       try clear p2
       obtain⟨kq,x24_10,rfl,HA,HJ10,HB⟩:=hcut;cases kq with
       | zero=>exact absurd HA.out (by simp[r06_Compare.j2])
       | succ kj10 =>
        have H:=HA.out;clear HA;simp only[r06_Compare.j2] at H
        by_cases c13:x24_10=true
        ·subst c13
         have H1:(if 0<=x5_2 then (if x5_2<(l0.length:Int) then (if x5_2<(l1.length:Int) then ((r05_Compare.f kj10 ((rd_T65 l0 x5_2).f0) ((rd_T65 l0 x5_2).f1) ((rd_T65 l0 x5_2).f2) ((rd_T65 l1 x5_2).f0) ((rd_T65 l1 x5_2).f1) ((rd_T65 l1 x5_2).f2)).bind fun t189=>(if t189=0 then (r06_Compare.l0 kj10 l0 l1 (wrap64 (x5_2+1))) else (some t189))) else (none)) else (none)) else (none))=some r:=by rw[if_pos rfl] at H;exact H
         clear H;have H:=H1;clear H1
         by_cases c14:0<=x5_2
         ·rw[if_pos c14] at H
          have c14b0:decide (0<=x5_2)=true:=DET c14;clear c14
          by_cases c15:x5_2<(l0.length:Int)
          ·rw[if_pos c15] at H
           have c15b0:decide (x5_2<(l0.length:Int))=true:=DET c15;clear c15
           by_cases c16:x5_2<(l1.length:Int)
           ·rw[if_pos c16] at H
            have c16b0:decide (x5_2<(l1.length:Int))=true:=DET c16;clear c16;replace H:=Option.bind_eq_some_iff.mp H;obtain⟨t189,A170,H⟩:=H;replace H:(if t189=0 then (r06_Compare.l0 kj10 l0 l1 (wrap64 (x5_2+1))) else (some t189))=some r:=H;have A17:=Aside0.mk A170;clear A170
            by_cases c18:t189=0
            ·rw[if_pos c18] at H
             have c18b0:(t189 == 0)=true:=beq_iff_eq.mpr c18;have c18b1:(t189 != 0)=false:=bne_eq_false_iff_eq.mpr c18;clear c18;have H':=Aside0.mk H;clear H
             try go_wp2
             replace HB:=Aside0.mk (below_drew1 HB.out);have p187:0<=(x5_2:Int):=ODT zq1;have q187:x5_2<(l0.length:Int):=ODT zq1;obtain⟨ad187,e187,hx187_0,hx187_1,hx187_2⟩:=at_T65 HR0.out x5_2 p187 q187;have hw187_2:=hx187_2;have hw187_1:=hx187_1;have hw187_0:=hx187_0;cases e187;replace hx187_0:=hZ hx187_0 HB.out;replace hx187_1:=hZ hx187_1 HB.out;replace hx187_2:=hZ hx187_2 HB.out;replace p187:=eq_true p187;replace q187:=eq_true q187;have p188:0<=(x5_2:Int):=ODT zq1;have q188:x5_2<(l1.length:Int):=ODT zq1;obtain⟨ad188,e188,hx188_0,hx188_1,hx188_2⟩:=at_T65 HR1.out x5_2 p188 q188;have hw188_2:=hx188_2;have hw188_1:=hx188_1;have hw188_0:=hx188_0;cases e188;replace hx188_0:=hZ hx188_0 HB.out;replace hx188_1:=hZ hx188_1 HB.out;replace hx188_2:=hZ hx188_2 HB.out;replace p188:=eq_true p188;replace q188:=eq_true q188;refine start_ (n:=10) (S:=fun w'=>w'.cell? (ad187.add ((x5_2).toNat*3))=some (.int .i64 ((rd_T65 l0 x5_2).f0))/\w'.cell? ⟨(ad187.add ((x5_2).toNat*3)).block,(ad187.add ((x5_2).toNat*3)).off+1,none⟩=some (.int .i64 ((rd_T65 l0 x5_2).f1))/\w'.cell? ⟨(ad187.add ((x5_2).toNat*3)).block,(ad187.add ((x5_2).toNat*3)).off+2,none⟩=some (.string ((rd_T65 l0 x5_2).f2))/\w'.cell? (ad188.add ((x5_2).toNat*3))=some (.int .i64 ((rd_T65 l1 x5_2).f0))/\w'.cell? ⟨(ad188.add ((x5_2).toNat*3)).block,(ad188.add ((x5_2).toNat*3)).off+1,none⟩=some (.int .i64 ((rd_T65 l1 x5_2).f1))/\w'.cell? ⟨(ad188.add ((x5_2).toNat*3)).block,(ad188.add ((x5_2).toNat*3)).off+2,none⟩=some (.string ((rd_T65 l1 x5_2).f2))) (ds:=[]) #[false,false,false,false,false,false,false,false,false,false] zq17 rfl rfl ⟨hZ hw187_0 HB.out,hZ hw187_1 HB.out,hZ hw187_2 HB.out,hZ hw188_0 HB.out,hZ hw188_1 HB.out,hZ hw188_2 HB.out⟩ (fun hHeld=>?_);refine with_tabW r06_Compare.tab6 r06_Compare.bits6 (fun HT_ HW_=>?_)
             generalize wc.drew=w19 at HB hx187_0 hx187_1 hx187_2 hx188_0 hx188_1 hx188_2 hHeld ⊢;refine pZ 0 27 ?_;refine pZ 1 28 ?_;refine pZ 2 29 ?_;refine pZ 4 31 ?_;refine pZ 5 32 ?_;refine pZ 6 33 ?_;refine tZ6 3 30 ?_;refine tZ6 7 34 ?_;refine oZ 8 35 (fun K hK=>?_);refine gY Tryz.func128 #[.agg #[.int .i64 ((rd_T65 l0 x5_2).f0),.int .i64 ((rd_T65 l0 x5_2).f1),.string ((rd_T65 l0 x5_2).f2)],.agg #[.int .i64 ((rd_T65 l1 x5_2).f0),.int .i64 ((rd_T65 l1 x5_2).f1),.string ((rd_T65 l1 x5_2).f2)]] ?_
             with_reducible refine (r05_Compare.calls kj10 ((rd_T65 l0 x5_2).f0) ((rd_T65 l0 x5_2).f1) ((rd_T65 l0 x5_2).f2) ((rd_T65 l1 x5_2).f0) ((rd_T65 l1 x5_2).f1) ((rd_T65 l1 x5_2).f2) t189 _ A17.out).mono ?_
             rintro e w20 ⟨rfl,hb⟩;refine⟨_,rfl,?_⟩;replace HB:=BB HB hb
             (try clear hb)
             refine hK.out _ _ ⟨hZ hw187_0 HB.out,hZ hw187_1 HB.out,hZ hw187_2 HB.out,hZ hw188_0 HB.out,hZ hw188_1 HB.out,hZ hw188_2 HB.out⟩ (fun hHeld=>?_);clear hK K;refine nZ 35 ?_;refine pZ 9 6 ?_;refine done_ (done_of HT_.out zq17) ?_
             try go_wp2
             go_roundg kj10
             case measure=>have:=HJ2.out;have:=HK2.out;have:=HJ10.out;omega
             case rel=>exact⟨(wrap64 (x5_2+1)),zq3,H',⟨by have:=HJ2.out;have:=HK2.out;have:=HJ10.out;omega⟩,⟨zq0⟩⟩
            ·rw[if_neg c18] at H
             have c18b0:(t189 == 0)=false:=BNM c18;have c18b1:(t189 != 0)=true:=bne_iff_ne.mpr c18;obtain rfl:=OSI H
             try go_wp2
             replace HB:=Aside0.mk (below_drew1 HB.out);have p187:0<=(x5_2:Int):=ODT zq1;have q187:x5_2<(l0.length:Int):=ODT zq1;obtain⟨ad187,e187,hx187_0,hx187_1,hx187_2⟩:=at_T65 HR0.out x5_2 p187 q187;have hw187_2:=hx187_2;have hw187_1:=hx187_1;have hw187_0:=hx187_0;cases e187;replace hx187_0:=hZ hx187_0 HB.out;replace hx187_1:=hZ hx187_1 HB.out;replace hx187_2:=hZ hx187_2 HB.out;replace p187:=eq_true p187;replace q187:=eq_true q187;have p188:0<=(x5_2:Int):=ODT zq1;have q188:x5_2<(l1.length:Int):=ODT zq1;obtain⟨ad188,e188,hx188_0,hx188_1,hx188_2⟩:=at_T65 HR1.out x5_2 p188 q188;have hw188_2:=hx188_2;have hw188_1:=hx188_1;have hw188_0:=hx188_0;cases e188;replace hx188_0:=hZ hx188_0 HB.out;replace hx188_1:=hZ hx188_1 HB.out;replace hx188_2:=hZ hx188_2 HB.out;replace p188:=eq_true p188;replace q188:=eq_true q188;refine start_ (n:=10) (S:=fun w'=>w'.cell? (ad187.add ((x5_2).toNat*3))=some (.int .i64 ((rd_T65 l0 x5_2).f0))/\w'.cell? ⟨(ad187.add ((x5_2).toNat*3)).block,(ad187.add ((x5_2).toNat*3)).off+1,none⟩=some (.int .i64 ((rd_T65 l0 x5_2).f1))/\w'.cell? ⟨(ad187.add ((x5_2).toNat*3)).block,(ad187.add ((x5_2).toNat*3)).off+2,none⟩=some (.string ((rd_T65 l0 x5_2).f2))/\w'.cell? (ad188.add ((x5_2).toNat*3))=some (.int .i64 ((rd_T65 l1 x5_2).f0))/\w'.cell? ⟨(ad188.add ((x5_2).toNat*3)).block,(ad188.add ((x5_2).toNat*3)).off+1,none⟩=some (.int .i64 ((rd_T65 l1 x5_2).f1))/\w'.cell? ⟨(ad188.add ((x5_2).toNat*3)).block,(ad188.add ((x5_2).toNat*3)).off+2,none⟩=some (.string ((rd_T65 l1 x5_2).f2))) (ds:=[]) #[false,false,false,false,false,false,false,false,false,false] zq17 rfl rfl ⟨hZ hw187_0 HB.out,hZ hw187_1 HB.out,hZ hw187_2 HB.out,hZ hw188_0 HB.out,hZ hw188_1 HB.out,hZ hw188_2 HB.out⟩ (fun hHeld=>?_);refine with_tabW r06_Compare.tab6 r06_Compare.bits6 (fun HT_ HW_=>?_)
             generalize wc.drew=w21 at HB hx187_0 hx187_1 hx187_2 hx188_0 hx188_1 hx188_2 hHeld ⊢;refine pZ 0 27 ?_;refine pZ 1 28 ?_;refine pZ 2 29 ?_;refine pZ 4 31 ?_;refine pZ 5 32 ?_;refine pZ 6 33 ?_;refine tZ6 3 30 ?_;refine tZ6 7 34 ?_;refine oZ 8 35 (fun K hK=>?_);refine gY Tryz.func128 #[.agg #[.int .i64 ((rd_T65 l0 x5_2).f0),.int .i64 ((rd_T65 l0 x5_2).f1),.string ((rd_T65 l0 x5_2).f2)],.agg #[.int .i64 ((rd_T65 l1 x5_2).f0),.int .i64 ((rd_T65 l1 x5_2).f1),.string ((rd_T65 l1 x5_2).f2)]] ?_
             with_reducible refine (r05_Compare.calls kj10 ((rd_T65 l0 x5_2).f0) ((rd_T65 l0 x5_2).f1) ((rd_T65 l0 x5_2).f2) ((rd_T65 l1 x5_2).f0) ((rd_T65 l1 x5_2).f1) ((rd_T65 l1 x5_2).f2) t189 _ A17.out).mono ?_
             rintro e w22 ⟨rfl,hb⟩;refine⟨_,rfl,?_⟩;replace HB:=BB HB hb
             (try clear hb)
             refine hK.out _ _ ⟨hZ hw187_0 HB.out,hZ hw187_1 HB.out,hZ hw187_2 HB.out,hZ hw188_0 HB.out,hZ hw188_1 HB.out,hZ hw188_2 HB.out⟩ (fun hHeld=>?_);clear hK K;refine nZ 35 ?_;refine pZ 9 6 ?_;refine done_ (done_of HT_.out zq17) ?_
             try go_wp2
             go_ret;exact⟨zq2,zq0⟩
           ·rw[if_neg c16] at H
            exact absurd H zq30
          ·rw[if_neg c15] at H
           exact absurd H zq30
         ·rw[if_neg c14] at H
          exact absurd H zq30
        ·replace c13:=Bool.eq_false_iff.mpr c13
         subst c13;have H1:(if (l0.length:Int)<(l1.length:Int) then (some (-1)) else (if (l0.length:Int) > (l1.length:Int) then (some 1) else (some 0)))=some r:=by rw[if_neg (show ¬ (false=true) by decide)] at H;exact H
         clear H;have H:=H1;clear H1
         by_cases c23:(l0.length:Int)<(l1.length:Int)
         ·rw[if_pos c23] at H
          have c23b0:decide ((l0.length:Int)<(l1.length:Int))=true:=DET c23;have c23b1:decide (l0.length<l1.length)=true:=DET (Int.ofNat_lt.mp c23);clear c23;obtain rfl:=OSI H;go_wp2;go_ret;exact⟨zq2,zq0⟩
         ·rw[if_neg c23] at H
          have c23b0:decide ((l0.length:Int)<(l1.length:Int))=false:=DEF c23;have c23b1:decide (l0.length<l1.length)=false:=DEF (fun h=>c23 (Int.ofNat_lt.mpr h));clear c23
          by_cases c24:(l0.length:Int) > (l1.length:Int)
          ·rw[if_pos c24] at H
           have c24b0:decide ((l1.length:Int)<(l0.length:Int))=true:=DET c24;have c24b1:decide (l1.length<l0.length)=true:=DET (Int.ofNat_lt.mp c24);clear c24;obtain rfl:=OSI H;go_wp2;go_ret;exact⟨zq2,zq0⟩
          ·rw[if_neg c24] at H
           have c24b0:decide ((l1.length:Int)<(l0.length:Int))=false:=DEF c24;have c24b1:decide (l1.length<l0.length)=false:=DEF (fun h=>c24 (Int.ofNat_lt.mpr h));clear c24;obtain rfl:=OSI H;go_wp2;go_ret;exact⟨zq2,zq0⟩
attribute [local go_sem] max2_int min2_int max_two min_two max_three min_three max_four min_four
attribute [local go_sem] max2_int min2_int max_two min_two max_three min_three max_four min_four
mutual
def r09_May.l0:Nat->List (S85)->Int->Option (Bool)
 | 0,_,_=>none
 | k+1,x0,x3=>if x3<(x0.length:Int) then (if 0<=x3 then (if ((rd_T85 x0 x3).f0)<(-1) then (r09_May.j1 k x0 x3 true) else (if ((rd_T85 x0 x3).f0) >= 1125899906842624 then (r09_May.j1 k x0 x3 true) else (if ((rd_T85 x0 x3).f1)=0 then (r09_May.j1 k x0 x3 true) else (if ((rd_T85 x0 x3).f1) > 1048576 then (r09_May.j1 k x0 x3 true) else (r09_May.j1 k x0 x3 (decide (((rd_T85 x0 x3).f1)<(-1048576)))))))) else (none)) else (some true)
def r09_May.j1:Nat->List (S85)->Int->Bool->Option (Bool)
 | 0,_,_,_=>none
 | k+1,x0,x3,x50=>if x50=true then (some false) else (if x3 > 0 then (if 0<=x3 then (if x3<(x0.length:Int) then (if 0<=(wrap64 (x3 - 1)) then (if (wrap64 (x3 - 1))<(x0.length:Int) then (if ((rd_T85 x0 x3).f0)<=((rd_T85 x0 (wrap64 (x3 - 1))).f0) then (some false) else (r09_May.l0 k x0 (wrap64 (x3+1)))) else (none)) else (none)) else (none)) else (none)) else (r09_May.l0 k x0 (wrap64 (x3+1))))
end
def r09_May.f (k:Nat) (l0:List (S85)):Option (Bool):=if (l0.length:Int) > 1024 then (some false) else (r09_May.l0 k l0 0)
theorem r09_May.calls (k:Nat) (A0:Option Addr) (c0:Nat) (l0:List (S85)) (r:Bool) (w:World) (hr0:Kd.C k85 w A0 l0.length l0) (hc0:l0.length<=c0) (h:r09_May.f k l0=some r) :
  Calls Tryz.prog 79 #[.slice A0 l0.length c0] w fun e w'=>e = .returned (.bool r)/\Drawn0 w w':=by
 have HR0:=Aside0.mk hr0;have HC0:=Aside0.mk hc0;clear hr0 hc0;have H:(if (l0.length:Int) > 1024 then (some false) else (r09_May.l0 k l0 0))=some r:=h;clear h
 by_cases c2:(l0.length:Int) > 1024
 ·rw[if_pos c2] at H
  have c2b0:decide (1024<(l0.length:Int))=true:=DET c2;have c2b1:decide (1024<l0.length)=true:=DET zq4;clear c2;obtain rfl:=OSI H;go_enter Tryz.func79,Tryz.ntmps79;go_wp2
  repeat (go_quiet (fail);try go_wp2)
  go_ret;exact⟨zq3,zq5⟩
 ·rw[if_neg c2] at H
  have c2b0:decide (1024<(l0.length:Int))=false:=DEF c2;have c2b1:decide (1024<l0.length)=false:=DEF zq4;clear c2;have H':=Aside0.mk H;clear H;go_enter Tryz.func79,Tryz.ntmps79;go_wp2
  repeat (go_quiet (fail);try go_wp2)
  go_loopg [3] k (fun kq v3 w'=>∃ (x3_1:Int),v3 = .int .i64 x3_1/\Aside0 (r09_May.l0 kq l0 x3_1=some r)/\Aside0 (kq<=k)/\Drawn0 w w')
  case atStart=>exact⟨(0),zq3,H',⟨Nat.le_refl _⟩,zq5⟩
  case round =>
   clear H'
   try clear c2
   try clear c2b0
   try clear c2b1
   try clear p2
   obtain⟨x3_1,rfl,HA,HK1,⟨m1,rfl⟩⟩:=hrel;cases gk with
   | zero=>exact absurd HA.out (by simp[r09_May.l0])
   | succ k1 =>
    have H:=HA.out;clear HA;simp only[r09_May.l0] at H
    by_cases c3:x3_1<(l0.length:Int)
    ·rw[if_pos c3] at H
     have c3b0:decide (x3_1<(l0.length:Int))=true:=DET c3;clear c3;have HC4:=Aside0.mk H;clear H
     go_upto_region 6 with (fail)
     repeat (go_quiet (fail);go_upto_region 6 with (fail))
     go_cut [50] (fun v50 wc=>∃ (kq:Nat) (x50_3:Bool),v50 = .bool x50_3/\Aside0 (r09_May.j1 kq l0 x3_1 x50_3=some r)/\Aside0 (kq<=k1)/\Drawn0 w wc)
     case first =>
      have H:=HC4.out;clear HC4
      by_cases c5:0<=x3_1
      ·rw[if_pos c5] at H
       have c5b0:decide (0<=x3_1)=true:=DET c5;clear c5
       (first | rw[c5b0] | (simp only[i64_w,i32_w];rw[c5b0]) | skip)
       by_cases c6:((rd_T85 l0 x3_1).f0)<(-1)
       ·rw[if_pos c6] at H
        have c6b0:decide (((rd_T85 l0 x3_1).f0)<(-1))=true:=DET c6;clear c6;have H':=Aside0.mk H;clear H;have p245:0<=(x3_1:Int):=ODT zq1;have q245:x3_1<(l0.length:Int):=ODT zq1;obtain⟨ad245,e245,hx245_0,hx245_1⟩:=at_T85 HR0.out x3_1 p245 q245;cases e245;replace p245:=eq_true p245;replace q245:=eq_true q245;go_wp2
        repeat (go_quiet (fail);try go_wp2)
        go_meet
        case rel=>exact⟨_,(true),zq3,H',⟨by have:=HK1.out;first | omega | exact Nat.le_refl _⟩,zq5⟩
       ·rw[if_neg c6] at H
        have c6b0:decide (((rd_T85 l0 x3_1).f0)<(-1))=false:=DEF c6;clear c6
        by_cases c7:((rd_T85 l0 x3_1).f0) >= 1125899906842624
        ·rw[if_pos c7] at H
         have c7b0:decide (1125899906842624<=((rd_T85 l0 x3_1).f0))=true:=DET c7;clear c7;have H':=Aside0.mk H;clear H;have p245:0<=(x3_1:Int):=ODT zq1;have q245:x3_1<(l0.length:Int):=ODT zq1;obtain⟨ad245,e245,hx245_0,hx245_1⟩:=at_T85 HR0.out x3_1 p245 q245;cases e245;replace p245:=eq_true p245;replace q245:=eq_true q245;have p246:0<=(x3_1:Int):=ODT zq1;have q246:x3_1<(l0.length:Int):=ODT zq1;obtain⟨ad246,e246,hx246_0,hx246_1⟩:=at_T85 HR0.out x3_1 p246 q246;obtain rfl:ad245=ad246:=(by injection e246)
         replace p246:=eq_true p246;replace q246:=eq_true q246;go_wp2
         repeat (go_quiet (fail);try go_wp2)
         go_meet
         case rel=>exact⟨_,(true),zq3,H',⟨by have:=HK1.out;first | omega | exact Nat.le_refl _⟩,zq5⟩
        ·rw[if_neg c7] at H
         have c7b0:decide (1125899906842624<=((rd_T85 l0 x3_1).f0))=false:=DEF c7;clear c7
         by_cases c8:((rd_T85 l0 x3_1).f1)=0
         ·rw[if_pos c8] at H
          have c8b0:(((rd_T85 l0 x3_1).f1) == 0)=true:=beq_iff_eq.mpr c8;have c8b1:(((rd_T85 l0 x3_1).f1) != 0)=false:=bne_eq_false_iff_eq.mpr c8;clear c8;have H':=Aside0.mk H;clear H;have p245:0<=(x3_1:Int):=ODT zq1;have q245:x3_1<(l0.length:Int):=ODT zq1;obtain⟨ad245,e245,hx245_0,hx245_1⟩:=at_T85 HR0.out x3_1 p245 q245;cases e245;replace p245:=eq_true p245;replace q245:=eq_true q245;have p246:0<=(x3_1:Int):=ODT zq1;have q246:x3_1<(l0.length:Int):=ODT zq1;obtain⟨ad246,e246,hx246_0,hx246_1⟩:=at_T85 HR0.out x3_1 p246 q246;obtain rfl:ad245=ad246:=(by injection e246)
          replace p246:=eq_true p246;replace q246:=eq_true q246;have p247:0<=(x3_1:Int):=ODT zq1;have q247:x3_1<(l0.length:Int):=ODT zq1;obtain⟨ad247,e247,hx247_0,hx247_1⟩:=at_T85 HR0.out x3_1 p247 q247;obtain rfl:ad245=ad247:=(by injection e247)
          replace p247:=eq_true p247;replace q247:=eq_true q247;go_wp2
          repeat (go_quiet (fail);try go_wp2)
          go_meet
          case rel=>exact⟨_,(true),zq3,H',⟨by have:=HK1.out;first | omega | exact Nat.le_refl _⟩,zq5⟩
         ·rw[if_neg c8] at H
          have c8b0:(((rd_T85 l0 x3_1).f1) == 0)=false:=BNM c8;have c8b1:(((rd_T85 l0 x3_1).f1) != 0)=true:=bne_iff_ne.mpr c8
          by_cases c9:((rd_T85 l0 x3_1).f1) > 1048576
          ·rw[if_pos c9] at H
           have c9b0:decide (1048576<((rd_T85 l0 x3_1).f1))=true:=DET c9;clear c9;have H':=Aside0.mk H;clear H;have p245:0<=(x3_1:Int):=ODT zq1;have q245:x3_1<(l0.length:Int):=ODT zq1;obtain⟨ad245,e245,hx245_0,hx245_1⟩:=at_T85 HR0.out x3_1 p245 q245;cases e245;replace p245:=eq_true p245;replace q245:=eq_true q245;have p246:0<=(x3_1:Int):=ODT zq1;have q246:x3_1<(l0.length:Int):=ODT zq1;obtain⟨ad246,e246,hx246_0,hx246_1⟩:=at_T85 HR0.out x3_1 p246 q246;obtain rfl:ad245=ad246:=(by injection e246)
           replace p246:=eq_true p246;replace q246:=eq_true q246;have p247:0<=(x3_1:Int):=ODT zq1;have q247:x3_1<(l0.length:Int):=ODT zq1;obtain⟨ad247,e247,hx247_0,hx247_1⟩:=at_T85 HR0.out x3_1 p247 q247;obtain rfl:ad245=ad247:=(by injection e247)
           replace p247:=eq_true p247;replace q247:=eq_true q247;have p248:0<=(x3_1:Int):=ODT zq1;have q248:x3_1<(l0.length:Int):=ODT zq1;obtain⟨ad248,e248,hx248_0,hx248_1⟩:=at_T85 HR0.out x3_1 p248 q248;obtain rfl:ad245=ad248:=(by injection e248)
           replace p248:=eq_true p248;replace q248:=eq_true q248;go_wp2
           repeat (go_quiet (fail);try go_wp2)
           go_meet
           case rel=>exact⟨_,(true),zq3,H',⟨by have:=HK1.out;first | omega | exact Nat.le_refl _⟩,zq5⟩
          ·rw[if_neg c9] at H
           have c9b0:decide (1048576<((rd_T85 l0 x3_1).f1))=false:=DEF c9;clear c9;have H':=Aside0.mk H;clear H;have p245:0<=(x3_1:Int):=ODT zq1;have q245:x3_1<(l0.length:Int):=ODT zq1;obtain⟨ad245,e245,hx245_0,hx245_1⟩:=at_T85 HR0.out x3_1 p245 q245;cases e245;replace p245:=eq_true p245;replace q245:=eq_true q245;have p246:0<=(x3_1:Int):=ODT zq1;have q246:x3_1<(l0.length:Int):=ODT zq1;obtain⟨ad246,e246,hx246_0,hx246_1⟩:=at_T85 HR0.out x3_1 p246 q246;obtain rfl:ad245=ad246:=(by injection e246)
           replace p246:=eq_true p246;replace q246:=eq_true q246;have p247:0<=(x3_1:Int):=ODT zq1;have q247:x3_1<(l0.length:Int):=ODT zq1;obtain⟨ad247,e247,hx247_0,hx247_1⟩:=at_T85 HR0.out x3_1 p247 q247;obtain rfl:ad245=ad247:=(by injection e247)
           replace p247:=eq_true p247;replace q247:=eq_true q247;have p248:0<=(x3_1:Int):=ODT zq1;have q248:x3_1<(l0.length:Int):=ODT zq1;obtain⟨ad248,e248,hx248_0,hx248_1⟩:=at_T85 HR0.out x3_1 p248 q248;obtain rfl:ad245=ad248:=(by injection e248)
           replace p248:=eq_true p248;replace q248:=eq_true q248;have p249:0<=(x3_1:Int):=ODT zq1;have q249:x3_1<(l0.length:Int):=ODT zq1;obtain⟨ad249,e249,hx249_0,hx249_1⟩:=at_T85 HR0.out x3_1 p249 q249;obtain rfl:ad245=ad249:=(by injection e249)
           replace p249:=eq_true p249;replace q249:=eq_true q249;go_wp2
           repeat (go_quiet (fail);try go_wp2)
           go_meet
           case rel=>exact⟨_,(decide (((rd_T85 l0 x3_1).f1)<(-1048576))),zq3,H',⟨by have:=HK1.out;first | omega | exact Nat.le_refl _⟩,zq5⟩
      ·rw[if_neg c5] at H
       exact absurd H zq30
     case rest =>
      clear HC4
      try clear c2
      try clear c2b0
      try clear c2b1
      try clear p2
      try clear q2
      try clear hx2
      try clear c3
      try clear c3b0
      try clear c5
      try clear c5b0
      try clear c6
      try clear c6b0
      try clear c7
      try clear c7b0
      try clear c8
      try clear c8b0
      try clear c8b1
      try clear c9
      try clear c9b0
      try clear hx245_0
      try clear hx245_1
      try clear hx246_0
      try clear hx246_1
      try clear hx247_0
      try clear hx247_1
      try clear hx248_0
      try clear hx248_1
      try clear hx249_0
      try clear hx249_1
      try clear p2
      try clear p245
      try clear p246
      try clear p247
      try clear p248
      try clear p249
      try clear q245
      try clear q246
      try clear q247
      try clear q248
      try clear q249
      obtain⟨kq,x50_3,rfl,HA,HJ3,⟨mc3,rfl⟩⟩:=hcut;cases kq with
      | zero=>exact absurd HA.out (by simp[r09_May.j1])
      | succ kj3 =>
       have H:=HA.out;clear HA;simp only[r09_May.j1] at H
       by_cases c10:x50_3=true
       ·subst c10
        have H1:(some false)=some r:=by rw[if_pos rfl] at H;exact H
        clear H;have H:=H1;clear H1;obtain rfl:=OSI H;go_wp2
        repeat (go_quiet (fail);try go_wp2)
        go_ret;exact⟨zq3,zq5⟩
       ·replace c10:=Bool.eq_false_iff.mpr c10
        subst c10;have H1:(if x3_1 > 0 then (if 0<=x3_1 then (if x3_1<(l0.length:Int) then (if 0<=(wrap64 (x3_1 - 1)) then (if (wrap64 (x3_1 - 1))<(l0.length:Int) then (if ((rd_T85 l0 x3_1).f0)<=((rd_T85 l0 (wrap64 (x3_1 - 1))).f0) then (some false) else (r09_May.l0 kj3 l0 (wrap64 (x3_1+1)))) else (none)) else (none)) else (none)) else (none)) else (r09_May.l0 kj3 l0 (wrap64 (x3_1+1))))=some r:=by rw[if_neg (show ¬ (false=true) by decide)] at H;exact H
        clear H;have H:=H1;clear H1
        by_cases c11:x3_1 > 0
        ·rw[if_pos c11] at H
         have c11b0:decide (0<x3_1)=true:=DET c11;clear c11
         by_cases c12:0<=x3_1
         ·rw[if_pos c12] at H
          have c12b0:decide (0<=x3_1)=true:=DET c12;clear c12
          by_cases c13:x3_1<(l0.length:Int)
          ·rw[if_pos c13] at H
           have c13b0:decide (x3_1<(l0.length:Int))=true:=DET c13;clear c13;obtain⟨ji14,hji14⟩:∃ j_:Int,(wrap64 (x3_1 - 1))=j_:=⟨_,rfl⟩
           replace H:(if 0<=(ji14) then (if (ji14)<(l0.length:Int) then (if ((rd_T85 l0 x3_1).f0)<=((rd_T85 l0 (ji14)).f0) then (some false) else (r09_May.l0 kj3 l0 (wrap64 (x3_1+1)))) else (none)) else (none))=some r:=by first | (rw[hji14] at H;exact H) | (simp only[hji14] at H ⊢;exact H)
           have hji14w:(IntKind.i64.wrap (x3_1 - 1))=ji14:=(i64_w _).trans hji14
           by_cases c15:0<=(ji14)
           ·rw[if_pos c15] at H
            have c15b0:decide (0<=(ji14))=true:=DET c15;clear c15
            by_cases c16:(ji14)<(l0.length:Int)
            ·rw[if_pos c16] at H
             have c16b0:decide ((ji14)<(l0.length:Int))=true:=DET c16;clear c16
             by_cases c17:((rd_T85 l0 x3_1).f0)<=((rd_T85 l0 (ji14)).f0)
             ·rw[if_pos c17] at H
              have c17b0:decide (((rd_T85 l0 x3_1).f0)<=((rd_T85 l0 (ji14)).f0))=true:=DET c17;clear c17;obtain rfl:=OSI H;have p250:0<=(x3_1:Int):=ODT zq1;have q250:x3_1<(l0.length:Int):=ODT zq1;obtain⟨ad250,e250,hx250_0,hx250_1⟩:=at_T85 HR0.out x3_1 p250 q250;cases e250;replace p250:=eq_true p250;replace q250:=eq_true q250;have p251:0<=((ji14):Int):=ODT zq1;have q251:(ji14)<(l0.length:Int):=ODT zq1;obtain⟨ad251,e251,hx251_0,hx251_1⟩:=at_T85 HR0.out (ji14) p251 q251;obtain rfl:ad250=ad251:=(by injection e251)
              replace p251:=eq_true p251;replace q251:=eq_true q251;go_wp2
              repeat (go_quiet (fail);try go_wp2)
              go_ret;exact⟨(by first | rfl | (simp;done) | (simp only[<- hji14] <;> (first | rfl | simp)) | (simp[*];done)),zq5⟩
             ·rw[if_neg c17] at H
              have c17b0:decide (((rd_T85 l0 x3_1).f0)<=((rd_T85 l0 (ji14)).f0))=false:=DEF c17;clear c17;have H':=Aside0.mk H;clear H;have p250:0<=(x3_1:Int):=ODT zq1;have q250:x3_1<(l0.length:Int):=ODT zq1;obtain⟨ad250,e250,hx250_0,hx250_1⟩:=at_T85 HR0.out x3_1 p250 q250;cases e250;replace p250:=eq_true p250;replace q250:=eq_true q250;have p251:0<=((ji14):Int):=ODT zq1;have q251:(ji14)<(l0.length:Int):=ODT zq1;obtain⟨ad251,e251,hx251_0,hx251_1⟩:=at_T85 HR0.out (ji14) p251 q251;obtain rfl:ad250=ad251:=(by injection e251)
              replace p251:=eq_true p251;replace q251:=eq_true q251;go_wp2
              repeat (go_quiet (fail);try go_wp2)
              go_roundg kj3
              case measure=>have:=HK1.out;have:=HJ3.out;omega
              case rel=>exact⟨(wrap64 (x3_1+1)),zq3,H',⟨by have:=HK1.out;have:=HJ3.out;omega⟩,zq5⟩
            ·rw[if_neg c16] at H
             exact absurd H zq30
           ·rw[if_neg c15] at H
            exact absurd H zq30
          ·rw[if_neg c13] at H
           exact absurd H zq30
         ·rw[if_neg c12] at H
          exact absurd H zq30
        ·rw[if_neg c11] at H
         have c11b0:decide (0<x3_1)=false:=DEF c11;clear c11;have H':=Aside0.mk H;clear H;go_wp2
         repeat (go_quiet (fail);try go_wp2)
         go_roundg kj3
         case measure=>have:=HK1.out;have:=HJ3.out;omega
         case rel=>exact⟨(wrap64 (x3_1+1)),zq3,H',⟨by have:=HK1.out;have:=HJ3.out;omega⟩,zq5⟩
    ·rw[if_neg c3] at H
     have c3b0:decide (x3_1<(l0.length:Int))=false:=DEF c3;clear c3;obtain rfl:=OSI H;go_wp2
     repeat (go_quiet (fail);try go_wp2)
     go_ret;exact⟨zq3,zq5⟩
attribute [local go_sem] max2_int min2_int max_two min_two max_three min_three max_four min_four
end Go.Proofs.YtmkgecapkeojaaaGreat.PDa
end
