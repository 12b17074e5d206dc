/- Texts of this claim, put together by a program: PDax20, PDax21, PDax22, PDax, Run, SortP, SortM, Canon, Cmp, StepA, SortJ. -/
import Derived.Test.YtmkgecapkeojaaaGreatJ5
import Derived.RangeFuncNested
import Derived.RangeFuncBound
import Derived.RangeFuncCalls
import Derived.RangeFuncLeaves
import Derived.WalkKit
import Derived.Lib.Hide
import Derived.Deep.QuietTactic
import Derived.BigQuiet
import Derived.Lib.Bytealg
import Derived.Lib.SliceRun
import Derived.WalkSpells
import Derived.BigRegion
import Derived.RegionTactic
import Derived.ChangeAlike
set_option linter.unusedVariables false
set_option linter.unusedSimpArgs false
set_option maxHeartbeats 8000000
set_option maxRecDepth 100000
section
namespace Go.Proofs.YtmkgecapkeojaaaGreat.PDa
open RowKit YtmkgecapkeojaaaGreatW.PrintWords YtmkgecapkeojaaaGreatW.PrintLast YtmkgecapkeojaaaGreatW.PrintMore
attribute [local go_sem] max2_int min2_int max_two min_two max_three min_three max_four min_four
def step_told.f (k:Nat) (l0:List (S85)):Option ((List (S85)) × Int):=(step_May.f k l0).bind fun t525=>(if t525=true then (some (l0,0)) else (some (([]:List (S85)),7)))
theorem step_told.calls (k:Nat) (P0_:Nat->Prop) (u9000_:Value) (l0:List (S85)) (r1:List (S85)) (r2:Int) (w0 w:World) (hB:Below w0.heap.size w0 w) (ho0:Kd.R k85 85 w w0.heap.size P0_ u9000_ l0) (h:step_told.f k l0=some (r1,r2)) :
  Calls Tryz.prog 115 #[u9000_] w fun e w'=>∃ v0_:Value,e = .returned (.tuple #[v0_,.int .i64 r2])/\Kd.R k85 85 w' w0.heap.size (fun k_=>(P0_ k_\/w.heap.size<=k_)) v0_ r1/\Below w0.heap.size w0 w'/\Kept w w' (fun k_=>P0_ k_):=by
 have HO0:=Aside0.mk (show Kd.R k85 85 w w0.heap.size (fun k_=>(P0_ k_\/w.heap.size<=k_)) u9000_ l0 from Kd.R_mono ho0 (fun k_ hk=>(.inl hk)));have HK:=Aside0.mk (Kept.refl w (fun k_=>P0_ k_));have HW0:=Aside0.mk hB.size;have HB:=Aside0.mk hB;clear hB;have H:((step_May.f k l0).bind fun t525=>(if t525=true then (some (l0,0)) else (some (([]:List (S85)),7))))=some (r1,r2):=h;clear h;replace H:=Option.bind_eq_some_iff.mp H;obtain⟨t525,A20,H⟩:=H;replace H:(if t525=true then (some (l0,0)) else (some (([]:List (S85)),7)))=some (r1,r2):=H;have A2:=Aside0.mk A20;clear A20
 by_cases c3:t525=true
 ·subst c3
  have H1:(some (l0,0))=some (r1,r2):=by rw[if_pos rfl] at H;exact H
  clear H;have H:=H1;clear H1;simp only[Option.some.injEq,Prod.mk.injEq] at H;obtain⟨rfl,rfl⟩:=H;obtain⟨Ao4,co4,eo4⟩:=Kd.R_slice HO0.out;subst eo4;go_enter Tryz.func115,Tryz.ntmps115
  go_wp2_with (first | (refine gZ 5 Tryz.func61 #[.slice Ao4 l0.length co4] ?_;(with_reducible refine (step_May.calls k _ _ l0 true _ ?side1 ?side2 A2.out).mono ?_);(case side1=>repeat (first | exact (Kd.R_reads' HO0.out).2.2 | (with_reducible refine Kd.C_alloc ?_ _) | (with_reducible refine Kd.C_drewN ?_ _) | (with_reducible refine Kd.C_drew ?_)));(case side2=>exact (Kd.R_reads' HO0.out).2.1);rintro e w5 ⟨rfl,hb⟩;refine⟨_,rfl,?_⟩;replace HO0:=RB HO0 hb;replace HK:=Aside0.mk (Kept.below (S:=(fun k_=>P0_ k_)) zq16 hb);replace HB:=BB HB hb;(try clear hb)))
  go_ret2;exact⟨_,zq2,(by (with_reducible repeat (first | apply Kd.R_alloc | apply Kd.R_drewN | apply Kd.R_drew));exact HO0.out),zq0,zq16⟩
 ·replace c3:=Bool.eq_false_iff.mpr c3
  subst c3;have H1:(some (([]:List (S85)),7))=some (r1,r2):=by rw[if_neg (show ¬ (false=true) by decide)] at H;exact H
  clear H;have H:=H1;clear H1;simp only[Option.some.injEq,Prod.mk.injEq] at H;obtain⟨rfl,rfl⟩:=H;obtain⟨Ao6,co6,eo6⟩:=Kd.R_slice HO0.out;subst eo6;go_enter Tryz.func115,Tryz.ntmps115
  go_wp2_with (first | (refine gZ 5 Tryz.func61 #[.slice Ao6 l0.length co6] ?_;(with_reducible refine (step_May.calls k _ _ l0 false _ ?side1 ?side2 A2.out).mono ?_);(case side1=>repeat (first | exact (Kd.R_reads' HO0.out).2.2 | (with_reducible refine Kd.C_alloc ?_ _) | (with_reducible refine Kd.C_drewN ?_ _) | (with_reducible refine Kd.C_drew ?_)));(case side2=>exact (Kd.R_reads' HO0.out).2.1);rintro e w7 ⟨rfl,hb⟩;refine⟨_,rfl,?_⟩;replace HO0:=RB HO0 hb;replace HK:=Aside0.mk (Kept.below (S:=(fun k_=>P0_ k_)) zq16 hb);replace HB:=BB HB hb;(try clear hb)))
  go_ret2;exact⟨_,zq2,zq13,zq0,zq16⟩
def r06_Join.j0:Nat->List (S65)->List (S65)->Bool->Option ((List (S65)) × Int)
 | 0,_,_,_=>none
 | k+1,x0,x1,x14=>if x14=true then (some (([]:List (S65)),2)) else (if (wrap64 ((x0.length:Int)+(x1.length:Int))) > 8 then (some (([]:List (S65)),6)) else ((some (([]:List (S65)):List (S65))).bind fun y552=>(if y552.length+x0.length<4398046511104 then ((some (y552 ++ x0:List (S65))).bind fun y555=>(if y555.length+x1.length<4398046511104 then (some ((y555 ++ x1),0)) else (none))) else (none))))
def r06_Join.f (k:Nat) (l0:List (S65)) (l1:List (S65)):Option ((List (S65)) × Int):=(r06_May.f k l0).bind fun t550=>(if t550=true then ((r06_May.f k l1).bind fun t551=>(r06_Join.j0 k l0 l1 (!t551))) else (r06_Join.j0 k l0 l1 true))
theorem r06_Join.calls (k:Nat) (A0:Option Addr) (c0:Nat) (l0:List (S65)) (A1:Option Addr) (c1:Nat) (l1:List (S65)) (r1:List (S65)) (r2:Int) (w:World) (hr0:Kd.C k65 w A0 l0.length l0) (hc0:l0.length<=c0) (hr1:Kd.C k65 w A1 l1.length l1) (hc1:l1.length<=c1) (h:r06_Join.f k l0 l1=some (r1,r2)) :
  Calls Tryz.prog 32 #[.slice A0 l0.length c0,.slice A1 l1.length c1] w fun e w'=>∃ v0_:Value,e = .returned (.tuple #[v0_,.int .i64 r2])/\Kd.R k65 65 w' w.heap.size (fun _=>True) v0_ r1/\Below w.heap.size w w':=by
 have HR0:=Aside0.mk hr0;have HC0:=Aside0.mk hc0;clear hr0 hc0;have HR1:=Aside0.mk hr1;have HC1:=Aside0.mk hc1;clear hr1 hc1;have HB:=Aside0.mk (Below.refl w.heap.size w);have H:((r06_May.f k l0).bind fun t550=>(if t550=true then ((r06_May.f k l1).bind fun t551=>(r06_Join.j0 k l0 l1 (!t551))) else (r06_Join.j0 k l0 l1 true)))=some (r1,r2):=h;clear h;have HC3:=Aside0.mk H;clear H;go_enter Tryz.func32,Tryz.ntmps32
 go_upto_region 1 with (fail)
 go_cut [14] (fun v14 wc=>∃ (kq:Nat) (x14_2:Bool),v14 = .bool x14_2/\Aside0 (r06_Join.j0 kq l0 l1 x14_2=some (r1,r2))/\Aside0 (kq<=k)/\Aside0 (Below w.heap.size w wc))
 case first =>
  have H:=HC3.out;clear HC3;replace H:=Option.bind_eq_some_iff.mp H;obtain⟨t550,A40,H⟩:=H;replace H:(if t550=true then ((r06_May.f k l1).bind fun t551=>(r06_Join.j0 k l0 l1 (!t551))) else (r06_Join.j0 k l0 l1 true))=some (r1,r2):=H;have A4:=Aside0.mk A40;clear A40
  by_cases c5:t550=true
  ·subst c5
   have H1:((r06_May.f k l1).bind fun t551=>(r06_Join.j0 k l0 l1 (!t551)))=some (r1,r2):=by rw[if_pos rfl] at H;exact H
   clear H;have H:=H1;clear H1;replace H:=Option.bind_eq_some_iff.mp H;obtain⟨t551,A60,H⟩:=H;replace H:(r06_Join.j0 k l0 l1 (!t551))=some (r1,r2):=H;have A6:=Aside0.mk A60;clear A60;have H':=Aside0.mk H;clear H
   go_wp2_with (first | (refine gZ 8 Tryz.func69 #[.slice A0 l0.length c0] ?_;(with_reducible refine (r06_May.calls k _ _ l0 true _ ?side1 ?side2 A4.out).mono ?_);(case side1=>exact cQ (Kd.C_below HR0.out HB.out));(case side2=>exact HC0.out);rintro e w7 ⟨rfl,hb⟩;refine⟨_,rfl,?_⟩;replace HB:=BB HB hb;(try clear hb)) | (go_at_call 69;(with_reducible refine (r06_May.calls k _ _ l1 t551 _ ?side1 ?side2 A6.out).mono ?_);(case side1=>exact cQ (Kd.C_below HR1.out HB.out));(case side2=>exact HC1.out);rintro e w8 ⟨rfl,hb⟩;replace HB:=BB HB hb;(try clear hb)))
   go_meet
   case rel=>exact⟨_,(!t551),zq3,H',⟨zq32⟩,⟨zq0⟩⟩
  ·replace c5:=Bool.eq_false_iff.mpr c5
   subst c5;have H1:(r06_Join.j0 k l0 l1 true)=some (r1,r2):=by rw[if_neg (show ¬ (false=true) by decide)] at H;exact H
   clear H;have H:=H1;clear H1;have H':=Aside0.mk H;clear H
   go_wp2_with (first | (refine gZ 8 Tryz.func69 #[.slice A0 l0.length c0] ?_;(with_reducible refine (r06_May.calls k _ _ l0 false _ ?side1 ?side2 A4.out).mono ?_);(case side1=>exact cQ (Kd.C_below HR0.out HB.out));(case side2=>exact HC0.out);rintro e w9 ⟨rfl,hb⟩;refine⟨_,rfl,?_⟩;replace HB:=BB HB hb;(try clear hb)))
   go_meet
   case rel=>exact⟨_,(true),zq3,H',⟨zq32⟩,⟨zq0⟩⟩
 case rest =>
  clear HC3
  try clear c1
  try clear p2
  try clear c3
  try clear c5
  try clear c6
  obtain⟨kq,x14_2,rfl,HA,HJ2,HB⟩:=hcut;cases kq with
  | zero=>exact absurd HA.out (by simp[r06_Join.j0])
  | succ kj2 =>
   have H:=HA.out;clear HA;simp only[r06_Join.j0] at H
   by_cases c10:x14_2=true
   ·subst c10
    have H1:(some (([]:List (S65)),2))=some (r1,r2):=by rw[if_pos rfl] at H;exact H
    clear H;have H:=H1;clear H1;simp only[Option.some.injEq,Prod.mk.injEq] at H;obtain⟨rfl,rfl⟩:=H;go_wp2;go_ret2;exact⟨_,zq2,zq13,zq0⟩
   ·replace c10:=Bool.eq_false_iff.mpr c10
    subst c10;have H1:(if (wrap64 ((l0.length:Int)+(l1.length:Int))) > 8 then (some (([]:List (S65)),6)) else ((some (([]:List (S65)):List (S65))).bind fun y552=>(if y552.length+l0.length<4398046511104 then ((some (y552 ++ l0:List (S65))).bind fun y555=>(if y555.length+l1.length<4398046511104 then (some ((y555 ++ l1),0)) else (none))) else (none))))=some (r1,r2):=by rw[if_neg (show ¬ (false=true) by decide)] at H;exact H
    clear H;have H:=H1;clear H1
    by_cases c11:(wrap64 ((l0.length:Int)+(l1.length:Int))) > 8
    ·rw[if_pos c11] at H
     have c11b0:decide (8<(wrap64 ((l0.length:Int)+(l1.length:Int))))=true:=DET c11;clear c11;simp only[Option.some.injEq,Prod.mk.injEq] at H;obtain⟨rfl,rfl⟩:=H;go_wp2;go_ret2;exact⟨_,zq2,zq13,zq0⟩
    ·rw[if_neg c11] at H
     have c11b0:decide (8<(wrap64 ((l0.length:Int)+(l1.length:Int))))=false:=DEF c11;clear c11;obtain⟨y552,hy552⟩:∃ y_:List (S65),y_=(([]:List (S65))):=⟨_,rfl⟩
     replace H:(if y552.length+l0.length<4398046511104 then ((some (y552 ++ l0:List (S65))).bind fun y555=>(if y555.length+l1.length<4398046511104 then (some ((y555 ++ l1),0)) else (none))) else (none))=some (r1,r2):=by first | (rw[hy552];with_reducible exact H) | (have H2_:=(Option.bind_some _ _).symm.trans H;rw[hy552];with_reducible exact H2_) | (have H2_:=(Option.bind_some _ _).symm.trans H;with_reducible exact H2_) | with_reducible exact H | (rw[hy552];exact H) | exact H
     have Ny552:=Aside0.mk hy552;clear hy552
     by_cases c12:y552.length+l0.length<4398046511104
     ·rw[if_pos c12] at H
      have LMc12:=Aside0.mk c12;clear c12;obtain⟨y555,hy555⟩:∃ y_:List (S65),y_=(y552 ++ l0):=⟨_,rfl⟩
      replace H:(if y555.length+l1.length<4398046511104 then (some ((y555 ++ l1),0)) else (none))=some (r1,r2):=by first | (rw[hy555];with_reducible exact H) | (have H2_:=(Option.bind_some _ _).symm.trans H;rw[hy555];with_reducible exact H2_) | (have H2_:=(Option.bind_some _ _).symm.trans H;with_reducible exact H2_) | with_reducible exact H | (rw[hy555];exact H) | exact H
      have Ny555:=Aside0.mk hy555;clear hy555
      by_cases c13:y555.length+l1.length<4398046511104
      ·rw[if_pos c13] at H
       have LMc13:=Aside0.mk c13;clear c13;obtain⟨y558,hy558⟩:∃ y_:List (S65),y_=(y555 ++ l1):=⟨_,rfl⟩
       replace H:(some (y558,0))=some (r1,r2):=by first | (rw[hy558];with_reducible exact H) | (have H2_:=(Option.bind_some _ _).symm.trans H;rw[hy558];with_reducible exact H2_) | (have H2_:=(Option.bind_some _ _).symm.trans H;with_reducible exact H2_) | with_reducible exact H | (rw[hy558];exact H) | exact H
       have Ny558:=Aside0.mk hy558;clear hy558;simp only[Option.some.injEq,Prod.mk.injEq] at H;obtain⟨rfl,rfl⟩:=H
       go_wp2_with (first | ((with_reducible refine gate_dst (N:=21) rfl ?_);refine Kd.R_lit k65 _ 65 ?hg (N:=21) ?hd (xs:=([]:List (S65))) (inner:=[]) (ok:=fun _=>True) (okp:=fun _=>True) ?hr ?hp (fun _ hk=>hk) trivial (Below.refl _ _) (Nat.le_refl _) zq30 ?_;(case hd=>rfl);(case hg=>rfl);(case hr=>first | (go_simp;done) | (go_simp;rfl));(case hp=>exact (Reps.none _ _));intro v553 w14 ho15 hb hg_ hnew_;clear hg_ hnew_;(first | rw[<- Ny552.out] at ho15 | (simp only[Int.reduceToNat] at ho15;rw[<- Ny552.out] at ho15));have HO554:=Aside0.mk (Kd.R_lower ho15 (below_size zq0));replace HB:=BB HB hb;clear hb ho15) | ((with_reducible refine gate_builtin (b:=.append) (xs:=#[.tmp 21,.tmp 22]) rfl ?_);at_builtin;refine Kd.R_append_rows k65 (w0:=w) w.heap.size rfl (.tmp 21) (.tmp 22) 39 65 (.agg #[(.int .i64 0),(.int .i64 0),(.string ⟨#[]⟩)]) 32 rfl Tryz.underlying39 info65 rfl zq34 zq4 v553 y552 l0 _ _ _ (fun _=>True) (fun _=>False) rfl rfl ?aO ?aR (fun _ _ h=>h) (fun _ h=>h.elim) ?aF ?aB ?aS ?aL ?_;(case aR=>exact cQ (Kd.C_below HR0.out HB.out));(case aB=>exact zq0);(case aF=>exact (fun _ _=>trivial));(case aO=>exact (rQ HO554.out));(case aS=>exact (below_size zq0));(case aL=>have:=LMc12.out;omega);intro v556 w16 ho hb hg hat;rw[<- Ny555.out] at ho;have HO557:=Aside0.mk (ho);replace HB:=Aside0.mk (hb);clear HO554;clear ho hb hg hat) | ((with_reducible refine gate_builtin (b:=.append) (xs:=#[.tmp 24,.tmp 25]) rfl ?_);at_builtin;refine Kd.R_append_rows k65 (w0:=w) w.heap.size rfl (.tmp 24) (.tmp 25) 39 65 (.agg #[(.int .i64 0),(.int .i64 0),(.string ⟨#[]⟩)]) 32 rfl Tryz.underlying39 info65 rfl zq34 zq4 v556 y555 l1 _ _ _ (fun _=>True) (fun _=>False) rfl rfl ?aO ?aR (fun _ _ h=>h) (fun _ h=>h.elim) ?aF ?aB ?aS ?aL ?_;(case aR=>exact cQ (Kd.C_below HR1.out HB.out));(case aB=>exact zq0);(case aF=>exact (fun _ _=>trivial));(case aO=>exact (rQ HO557.out));(case aS=>exact (below_size zq0));(case aL=>have:=LMc13.out;omega);intro v559 w17 ho hb hg hat;rw[<- Ny558.out] at ho;have HO560:=Aside0.mk (ho);replace HB:=Aside0.mk (hb);clear HO557;clear ho hb hg hat))
       go_ret2;exact⟨_,zq2,(by (with_reducible repeat (first | apply Kd.R_alloc | apply Kd.R_drewN | apply Kd.R_drew));exact HO560.out),zq0⟩
      ·rw[if_neg c13] at H
       exact absurd H zq30
     ·rw[if_neg c12] at H
      exact absurd H zq30
attribute [local go_sem] max2_int min2_int max_two min_two max_three min_three max_four min_four
attribute [local go_sem] max2_int min2_int max_two min_two max_three min_three max_four min_four
attribute [local go_sem high] eqA85
attribute [local go_sem] max2_int min2_int max_two min_two max_three min_three max_four min_four
end Go.Proofs.YtmkgecapkeojaaaGreat.PDa
end
section
namespace Go.Proofs.YtmkgecapkeojaaaGreat.Run
open Go RowKit
structure Grow (B:Nat) (I:World->Prop):Prop where
 below:∀ {W W':World},I W->Below W.heap.size W W'->I W'
 put:∀ {W:World} {l:Nat} {o:Obj} (o':Obj),I W->B<=l->W.heap[l]? = some o->o.isCells=false->I (W.putObj l o')
theorem Grow.alloc {B:Nat} {I:World->Prop} (h:Grow B I) {W:World} (o:Obj) (hi:I W):I (W.alloc o):=h.below hi ((Below.refl _ W).alloc (Nat.le_refl _) o)
theorem Grow.and {B:Nat} {I J:World->Prop} (h:Grow B I) (k:Grow B J):Grow B (fun W=>I W/\J W) :=
 ⟨fun hi hb=>⟨h.below hi.1 hb,k.below hi.2 hb⟩,fun o' hi hl ho hc=>⟨h.put o' hi.1 hl ho hc,k.put o' hi.2 hl ho hc⟩⟩
theorem Grow.const (B:Nat) (p:Prop):Grow B (fun _=>p):=⟨fun h _=>h,fun _ h _ _ _=>h⟩
theorem Grow.ex {B:Nat} {α:Sort _} {I:α->World->Prop} (h:∀ x,Grow B (I x)):Grow B (fun W=>∃ x,I x W) :=
 ⟨fun ⟨x,hi⟩ hb=>⟨x,(h x).below hi hb⟩,fun o' ⟨x,hi⟩ hl ho hc=>⟨x,(h x).put o' hi hl ho hc⟩⟩
theorem Grow.mono {B B':Nat} {I:World->Prop} (h:Grow B I) (hB:B<=B'):Grow B' I:=⟨fun a b=>h.below a b,fun o' a b c d=>h.put o' a (Nat.le_trans hB b) c d⟩
theorem below_put {n B:Nat} (hn:n<=B) {a W:World} {l:Nat} (o':Obj) (h:Below n a W) (hl:B<=l):Below n a (W.putObj l o') :=
 ⟨h.os,h.tape,h.output,by rw[World.putObj_size];exact h.size,fun k hk=>(World.putObj_heap_other (by omega)).trans (h.block k hk)⟩
theorem Grow.base {n B:Nat} (hn:n<=B) (a:World) (ha:n<=a.heap.size):Grow B (fun W=>Below n a W) :=
 ⟨fun h hb=>h.trans (hb.mono (Nat.le_trans ha h.size)),fun o' h hl _ _=>below_put hn o' h hl⟩
structure Keeps (R:Nat->Prop) (A B:World):Prop where
 os:B.os=A.os
 tape:B.tape=A.tape
 output:B.output=A.output
 size:A.heap.size<=B.heap.size
 block:∀ b,R b->B.heap[b]? = A.heap[b]?
theorem Keeps.refl (R:Nat->Prop) (A:World):Keeps R A A:=⟨rfl,rfl,rfl,Nat.le_refl _,fun _ _=>rfl⟩
theorem Keeps.trans {R:Nat->Prop} {A B C:World} (h:Keeps R A B) (k:Keeps R B C):Keeps R A C :=
 ⟨k.os.trans h.os,k.tape.trans h.tape,k.output.trans h.output,Nat.le_trans h.size k.size,fun b hb=>(k.block b hb).trans (h.block b hb)⟩
theorem Keeps.of_below {R:Nat->Prop} {n:Nat} {A B:World} (h:Below n A B) (hR:∀ b,R b->b<n):Keeps R A B:=⟨h.os,h.tape,h.output,h.size,fun b hb=>h.block b (hR b hb)⟩
theorem Keeps.below {R:Nat->Prop} {n:Nat} {A B:World} (h:Keeps R A B) (hR:∀ b,b<n->R b):Below n A B:=⟨h.os,h.tape,h.output,h.size,fun b hb=>h.block b (hR b hb)⟩
theorem Keeps.cell {R:Nat->Prop} {A B:World} (h:Keeps R A B) {p:Addr} (hp:R p.block):B.cell? p=A.cell? p:=World.cell?_of_block (w:=A) (h.block p.block hp)
structure Step (S S':Nat->Prop) (A B:World):Prop where
 os:B.os=A.os
 tape:B.tape=A.tape
 output:B.output=A.output
 size:A.heap.size<=B.heap.size
 keep:∀ b,b<A.heap.size -> ¬ S b->B.heap[b]? = A.heap[b]?
 sub:∀ b,S' b->S b\/A.heap.size<=b
theorem Step.refl (S:Nat->Prop) (A:World):Step S S A A:=⟨rfl,rfl,rfl,Nat.le_refl _,fun _ _ _=>rfl,fun _ h=>.inl h⟩
theorem Step.of_below {S:Nat->Prop} {A B:World} (h:Below A.heap.size A B):Step S S A B:=⟨h.os,h.tape,h.output,h.size,fun b hb _=>h.block b hb,fun _ h=>.inl h⟩
theorem Step.trans {S S' S'':Nat->Prop} {A B C:World} (h:Step S S' A B) (k:Step S' S'' B C):Step S S'' A C:=by
 refine⟨k.os.trans h.os,k.tape.trans h.tape,k.output.trans h.output,Nat.le_trans h.size k.size,fun b hb hS=>?_,fun b hb=>?_⟩
 ·refine (k.keep b (Nat.lt_of_lt_of_le hb h.size) fun hS'=>?_).trans (h.keep b hb hS)
  rcases h.sub b hS' with h1 | h1
  ·exact hS h1
  ·omega
 ·rcases k.sub b hb with h1 | h1
  ·exact h.sub b h1
  ·exact .inr (Nat.le_trans h.size h1)
theorem Step.keeps {S S' R:Nat->Prop} {A B:World} (h:Step S S' A B) (hR:∀ b,R b->b<A.heap.size /\ ¬ S b):Keeps R A B :=
 ⟨h.os,h.tape,h.output,h.size,fun b hb=>h.keep b (hR b hb).1 (hR b hb).2⟩
theorem Step.below {S S':Nat->Prop} {n:Nat} {A B:World} (h:Step S S' A B) (hn:n<=A.heap.size) (hS:∀ b,S b->n<=b):Below n A B :=
 (h.keeps (R:=fun b=>b<n) fun b hb=>⟨Nat.lt_of_lt_of_le hb hn,fun hs=>by have:=hS b hs;omega⟩).below fun _ h=>h
theorem Step.put {S:Nat->Prop} {A:World} {l:Nat} (o:Obj) (hl:S l):Step S S A (A.putObj l o):=by
 refine⟨rfl,rfl,rfl,by rw[World.putObj_size];exact Nat.le_refl _,fun b hb hS=>?_,fun _ h=>.inl h⟩;exact World.putObj_heap_other (fun e=>hS (by rw[e];exact hl))
theorem Step.wide {S S':Nat->Prop} {A B:World} (h:Step S S' A B) (T:Nat->Prop):Step (fun b=>S b\/T b) (fun b=>S' b\/T b) A B:=by
 refine⟨h.os,h.tape,h.output,h.size,fun b hb hS=>h.keep b hb fun hs=>hS (.inl hs),fun b hb=>?_⟩
 rcases hb with hb | hb
 ·rcases h.sub b hb with h1 | h1
  ·exact .inl (.inl h1)
  ·exact .inr h1
 ·exact .inl (.inr hb)
theorem Step.narrow {S S' S'':Nat->Prop} {A B:World} (h:Step S S' A B) (hs:∀ b,S'' b->S' b):Step S S'' A B:=⟨h.os,h.tape,h.output,h.size,h.keep,fun b hb=>h.sub b (hs b hb)⟩
theorem Step.drop {S S':Nat->Prop} {A B:World} {T:Nat->Prop} (h:Step (fun b=>S b\/T b) S' A B) (hT:∀ b,T b->A.heap.size<=b):Step S S' A B:=by
 refine⟨h.os,h.tape,h.output,h.size,fun b hb hS=>h.keep b hb ?_,fun b hb=>?_⟩
 ·rintro (h1 | h1)
  ·exact hS h1
  ·have:=hT b h1;omega
 ·rcases h.sub b hb with (h1 | h1) | h1
  ·exact .inl h1
  ·exact .inr (hT b h1)
  ·exact .inr h1
theorem loop_below {A B:World} (h:Below A.heap.size A B) {l:Nat} {o:Obj} (hl:A.heap[l]? = some o):B.heap[l]? = some o:=(h.block l (Array.getElem?_eq_some_iff.1 hl).1).trans hl
section
variable {F:Fence} {n:Nat} {P:Program} {β:Type}
def IterOn (F:Fence) (n:Nat) (P:Program) (gf:Nat) (lb:Array Value) (items:List β) (Φ:β->Array Value->World->Prop) (R:Nat->Prop) (w0:World):Prop :=
 (∀ b,R b->b<w0.heap.size) /\ ∀ (l:Nat) (J:Nat->(Nat->Prop)->World->Prop) (Jx:(Nat->Prop)->World->Prop) (S:Nat->Prop) (W:World),Keeps R w0 W->(∀ b,S b -> ¬ R b/\b<W.heap.size) ->
  (∀ k S,Grow W.heap.size (J k S))->(∀ S,Grow W.heap.size (Jx S)) ->
  (∀ k x args S1 W1,items[k]? = some x->J k S1 W1->(∀ b,S1 b->b<W1.heap.size)->Step S S1 W W1->Φ x args W1->YieldAt F (n - 1) P l args W1 fun e W' =>
   (e = .returned (.bool true) /\ ∃ S',Step S1 S' W1 W'/\(∀ b,S' b->b<W'.heap.size)/\J (k+1) S' W')\/(e = .returned (.bool false) /\ ∃ S',Step S1 S' W1 W'/\(∀ b,S' b->b<W'.heap.size)/\Jx S' W')) ->
  J 0 S W->CallsIn F n P gf (#[.func (.yield l) #[] #[]] ++ lb) W fun e W'=>(∃ v,e = .returned v) /\ ∃ S',Step S S' W W'/\(∀ b,S' b->b<W'.heap.size)/\(J items.length S' W'\/Jx S' W')
def IterOnB (F:Fence) (n:Nat) (P:Program) (gf:Nat) (lb:Array Value) (items:List β) (Φ:β->Array Value->Nat->World->Prop) (R:Nat->Prop) (w0:World):Prop :=
 (∀ b,R b->b<w0.heap.size) /\ ∀ (l:Nat) (J:Nat->(Nat->Prop)->World->Prop) (Jx:(Nat->Prop)->World->Prop) (S:Nat->Prop) (W:World),Keeps R w0 W->(∀ b,S b -> ¬ R b/\b<W.heap.size) ->
  (∀ k S,Grow W.heap.size (J k S))->(∀ S,Grow W.heap.size (Jx S)) ->
  (∀ k x args z S1 W1,items[k]? = some x->J k S1 W1->(∀ b,S1 b->b<z)->z<=W1.heap.size->Step S S1 W W1->Φ x args z W1->YieldAt F (n - 1) P l args W1 fun e W' =>
   (e = .returned (.bool true) /\ ∃ S',Step S1 S' W1 W'/\(∀ b,S' b->b<W'.heap.size)/\J (k+1) S' W')\/(e = .returned (.bool false) /\ ∃ S',Step S1 S' W1 W'/\(∀ b,S' b->b<W'.heap.size)/\Jx S' W')) ->
  J 0 S W->CallsIn F n P gf (#[.func (.yield l) #[] #[]] ++ lb) W fun e W'=>(∃ v,e = .returned v) /\ ∃ S',Step S S' W W'/\(∀ b,S' b->b<W'.heap.size)/\(J items.length S' W'\/Jx S' W')
theorem IterOnB.old {gf:Nat} {lb:Array Value} {items:List β} {Φ:β->Array Value->Nat->World->Prop} {Ψ:β->Array Value->World->Prop} {R:Nat->Prop} {w0:World} (h:IterOnB F n P gf lb items Φ R w0) (hΦ:∀ x args z W,Φ x args z W->Ψ x args W):IterOn F n P gf lb items Ψ R w0 :=
 ⟨h.1,fun l J Jx S W hW hS hJ hJx hY h0=>h.2 l J Jx S W hW hS hJ hJx (fun k x args z S1 W1 hx hj hz hzW hst hp=>hY k x args S1 W1 hx hj (fun b hb=>Nat.lt_of_lt_of_le (hz b hb) hzW) hst (hΦ _ _ _ _ hp)) h0⟩
theorem IterOn.toB {gf:Nat} {lb:Array Value} {items:List β} {Ψ:β->Array Value->World->Prop} {R:Nat->Prop} {w0:World} (h:IterOn F n P gf lb items Ψ R w0):IterOnB F n P gf lb items (fun x args _ W=>Ψ x args W) R w0 :=
 ⟨h.1,fun l J Jx S W hW hS hJ hJx hY h0=>h.2 l J Jx S W hW hS hJ hJx (fun k x args S1 W1 hx hj hz hst hp=>hY k x args W1.heap.size S1 W1 hx hj hz (Nat.le_refl _) hst hp) h0⟩
def roundEnd (I:Nat->(Nat->Prop)->World->Prop) (Ix:Code->(Nat->Prop)->World->Prop) (S:Nat->Prop) (k:Nat) (W:World):Exit->Act->World->Prop
 | .normal,_,W'=>∃ S',Step S S' W W'/\(∀ b,S' b->b<W'.heap.size)/\I (k+1) S' W'
 | .ret,_,W'=>∃ S',Step S S' W W'/\(∀ b,S' b->b<W'.heap.size)/\Ix .ret S' W'
 | .exit id,_,W'=>∃ S',Step S S' W W'/\(∀ b,S' b->b<W'.heap.size)/\Ix (.exit id) S' W'
 | .goto t,_,W'=>∃ S',Step S S' W W'/\(∀ b,S' b->b<W'.heap.size)/\Ix (.goto t) S' W'
 | .panic _,_,_=>False
 | .outgrown,_,_=>False
theorem yield_round {l:Nat} {rec:LoopState->Option Code->Loop} {fn:FuncId} {tmps:Array Value} {ps:Array Tmp} {assign body:Code} {m:Nat}
  (hrec:∃ D,rec=fun st pe=>{ state:=st,pending:=pe,fn,tmps,params:=ps,assign,body,defers:=D }) (hfn:F.fn fn)
  {B:Nat} (hB:B<=l) {I:Nat->(Nat->Prop)->World->Prop} {Ix:Code->(Nat->Prop)->World->Prop} (hI:∀ k S,Grow B (I k S)) (hIx:∀ c S,Grow B (Ix c S))
  {Φ:Array Value->World->Prop} (hΦ:∀ args,Grow B (Φ args)) {Ax:Array Value->Nat->Act->World->Prop} (hAx:∀ args n a',Grow B (Ax args n a'))
  (k:Nat) (S:Nat->Prop) (args:Array Value) (hargs:args.size=ps.size) (W:World) (hl:W.heap[l]? = some (.loop (rec .ready none))) (hSl:¬ S l) (hSb:∀ b,S b->b<W.heap.size) (hi:I k S W) (hphi:Φ args W)
  (hassign:∀ (K:Act->World->Prop),(∀ a' W',Below W.heap.size W W'->Ax args W.heap.size a' W'->K a' W') ->
   assign.wpIn (F.inRound l) m P (Exit.then K (fun _ _ _=>False)) { tmps:=(ps.zip args).foldl (fun t (p,v)=>t.setIfInBounds p v) tmps,defers:=[] } W)
  (hbody:∀ (a':Act) (W2:World),(∃ r,W2.heap[l]? = some (.loop r))->Step (fun b=>b=l) (fun b=>b=l) W W2->I k S W2->Φ args W2->Ax args W.heap.size a' W2->body.wpIn (F.inRound l) m P (roundEnd I Ix S k W2) a' W2) :
  YieldAt F m P l args W fun e W'=>(e = .returned (.bool true) /\ ∃ S',Step (fun b=>S b\/b=l) (fun b=>S' b\/b=l) W W'/\(∀ b,S' b->b<W'.heap.size) /\ ¬ S' l/\I (k+1) S' W'/\W'.heap[l]? = some (.loop (rec .ready none))) \/
   (e = .returned (.bool false) /\ ∃ c S',Step (fun b=>S b\/b=l) (fun b=>S' b\/b=l) W W'/\(∀ b,S' b->b<W'.heap.size) /\ ¬ S' l/\Ix c S' W'/\W'.heap[l]? = some (.loop (rec .done (some c)))):=by
 obtain⟨D,rfl⟩:=hrec;have hy:=run_yield (P:=P) (args:=args) hl hargs;refine⟨fn,_,assign,body,hy,roundIn_of_wpIn hfn (hassign _ ?_)⟩;intro a' W1 hb hax;have hl1:=loop_below hb hl;refine⟨_,run_beginRound hl1 rfl,?_⟩;have hlt:l<W1.heap.size:=(Array.getElem?_eq_some_iff.1 hl1).1;have hl2:=World.putObj_heap_same (w:=W1) (r:=l) (o:=.loop { state:=.busy,pending:=none,fn,tmps,params:=ps,assign,body,defers:=D }) hlt;have T2:∀ S:Nat->Prop,Step (fun b=>S b\/b=l) (fun b=>S b\/b=l) W (W1.putObj l (.loop { state:=.busy,pending:=none,fn,tmps,params:=ps,assign,body,defers:=D })) :=
  fun S=>(Step.of_below hb).trans (Step.put _ (.inr rfl))
 have T2':Step (fun b=>b=l) (fun b=>b=l) W (W1.putObj l (.loop { state:=.busy,pending:=none,fn,tmps,params:=ps,assign,body,defers:=D })):=(Step.of_below hb).trans (Step.put _ rfl);refine wpIn_mono (hbody a' _ ⟨_,hl2⟩ T2' ((hI k S).put _ ((hI k S).below hi hb) hB hl1 rfl) ((hΦ args).put _ ((hΦ args).below hphi hb) hB hl1 rfl) ((hAx args _ a').put _ hax hB hl1 rfl)) ?_;have key:∀ {S':Nat->Prop} {W3:World} (o:Obj),Step S S' (W1.putObj l (.loop { state:=.busy,pending:=none,fn,tmps,params:=ps,assign,body,defers:=D })) W3->(∀ b,S' b->b<W3.heap.size) ->
   W3.heap[l]? = some (.loop { state:=.busy,pending:=none,fn,tmps,params:=ps,assign,body,defers:=D })/\Step (fun b=>S b\/b=l) (fun b=>S' b\/b=l) W (W3.putObj l o)/\(∀ b,S' b->b<(W3.putObj l o).heap.size) /\ ¬ S' l/\(W3.putObj l o).heap[l]? = some o:=by
  intro S' W3 o hs hsb;have hl3:=(hs.keep l (by rw[World.putObj_size];exact hlt) hSl).trans hl2;refine⟨hl3,((T2 S).trans (hs.wide _)).trans (Step.put _ (.inr rfl)),fun b hb=>by rw[World.putObj_size];exact hsb b hb,fun h=>?_,World.putObj_heap_same (Array.getElem?_eq_some_iff.1 hl3).1⟩
  rcases hs.sub l h with h1 | h1
  ·exact hSl h1
  ·rw[World.putObj_size] at h1;omega
 intro e a3 W3 hp;cases e with
 | normal =>
  obtain⟨S',hs,hsb,hi3⟩:=hp;obtain⟨hl3,q1,q2,q3,q4⟩:=key (.loop { state:=.ready,pending:=none,fn,tmps,params:=ps,assign,body,defers:=D }) hs hsb;exact⟨_,_,run_endRound none hl3,.inl ⟨rfl,S',q1,q2,q3,(hI _ _).put _ hi3 hB hl3 rfl,q4⟩⟩
 | ret =>
  obtain⟨S',hs,hsb,hi3⟩:=hp;obtain⟨hl3,q1,q2,q3,q4⟩:=key (.loop { state:=.done,pending:=some .ret,fn,tmps,params:=ps,assign,body,defers:=D }) hs hsb;exact⟨_,_,run_endRound (some .ret) hl3,.inr ⟨rfl,.ret,S',q1,q2,q3,(hIx _ _).put _ hi3 hB hl3 rfl,q4⟩⟩
 | exit id =>
  obtain⟨S',hs,hsb,hi3⟩:=hp;obtain⟨hl3,q1,q2,q3,q4⟩:=key (.loop { state:=.done,pending:=some (.exit id),fn,tmps,params:=ps,assign,body,defers:=D }) hs hsb;exact⟨_,_,run_endRound (some (.exit id)) hl3,.inr ⟨rfl,.exit id,S',q1,q2,q3,(hIx _ _).put _ hi3 hB hl3 rfl,q4⟩⟩
 | goto t =>
  obtain⟨S',hs,hsb,hi3⟩:=hp;obtain⟨hl3,q1,q2,q3,q4⟩:=key (.loop { state:=.done,pending:=some (.goto t),fn,tmps,params:=ps,assign,body,defers:=D }) hs hsb;exact⟨_,_,run_endRound (some (.goto t)) hl3,.inr ⟨rfl,.goto t,S',q1,q2,q3,(hIx _ _).put _ hi3 hB hl3 rfl,q4⟩⟩
 | panic ch=>exact hp.elim
 | outgrown=>exact hp.elim
theorem range_outerB {g:Operand} {ps:Array Tmp} {assign body:Code} {Q:Exit->Act->World->Prop} {a:Act} {w:World}
  (hro:F.round=none) (h1:1<=n) {gf:Nat} {lb:Array Value} (hg:a.eval g = .func (.func gf) #[] lb) (hFg:F.fn gf) (eg:∀ args w,(callFunc gf args).run P w = .ok (.enter gf args) w)
  {items:List β} {Φ:β->Array Value->Nat->World->Prop} {R:Nat->Prop} {w0:World} (hseq:IterOnB F (n - 1) P gf lb items Φ R w0) (hw0:Keeps R w0 w) (hps:∀ x args z W,Φ x args z W->args.size=ps.size)
  (I:Nat->(Nat->Prop)->World->Prop) (Ix:Code->(Nat->Prop)->World->Prop) (Ax:β->Array Value->Nat->Act->World->Prop)
  (hI:∀ k S,Grow w.heap.size (I k S)) (hIx:∀ c S,Grow w.heap.size (Ix c S)) (hΦ:∀ x args z,Grow w.heap.size (Φ x args z)) (hAx:∀ x args n a',Grow w.heap.size (Ax x args n a'))
  (S0:Nat->Prop) (hS0:∀ b,S0 b -> ¬ R b/\b<w.heap.size) (h0:I 0 S0 w)
  (hassign:∀ (l k:Nat) (S:Nat->Prop) (x:β) (args:Array Value) (z:Nat) (W:World) (K:Act->World->Prop),items[k]? = some x->I k S W->Φ x args z W->(∀ a' W',Below W.heap.size W W'->Ax x args W.heap.size a' W'->K a' W') ->
   assign.wpIn (F.inRound l) (n - 1 - 1) P (Exit.then K (fun _ _ _=>False)) { tmps:=(ps.zip args).foldl (fun t (p,v)=>t.setIfInBounds p v) a.tmps,defers:=[] } W)
  (hbody:∀ (l k:Nat) (S:Nat->Prop) (x:β) (args:Array Value) (z n0:Nat) (a':Act) (W:World),w.heap.size<=l->(∃ r,W.heap[l]? = some (.loop r))->items[k]? = some x->(∀ b,S b->b<z)->z<=n0->n0<=W.heap.size -> ¬ S l->Keeps R w0 W->I k S W->Φ x args z W->Ax x args n0 a' W ->
   body.wpIn (F.inRound l) (n - 1 - 1) P (roundEnd I Ix S k W) a' W)
  (hdone:∀ (D:Nat) (S:Nat->Prop) (W:World),w.heap.size<=D -> ¬ S D->Step S0 S w W->(∀ b,S b->b<W.heap.size)->I items.length S W->W.heap[D]? = some (.deferred (some []))->Q .normal { a with defers:={ target:=.collected D,args:=#[] } :: a.defers } W)
  (hstop:∀ (D:Nat) (c:Code) (S:Nat->Prop) (W:World),w.heap.size<=D -> ¬ S D->Step S0 S w W->(∀ b,S b->b<W.heap.size)->Ix c S W->W.heap[D]? = some (.deferred (some []))->c.wpIn F n P Q { a with defers:={ target:=.collected D,args:=#[] } :: a.defers } W) :
  (Code.rangeFunc g ps assign body).wpIn F n P Q a w:=by
 refine wpIn_rangeFunc fun fn hfn=>?_
 rw[hro];obtain⟨rec,hrec⟩:∃ rec:LoopState->Option Code->Loop,rec=fun st pe=>{ state:=st,pending:=pe,fn,tmps:=a.tmps,params:=ps,assign,body,defers:=w.heap.size }:=⟨_,rfl⟩
 obtain⟨W1,hW1⟩:∃ W1,(w.alloc (.deferred (some []))).alloc (.loop (rec .ready none))=W1:=⟨_,rfl⟩
 have hsz:W1.heap.size=w.heap.size+2:=by rw[<- hW1];simp
 have hL1:W1.heap[w.heap.size+1]? = some (.loop (rec .ready none)):=by
  rw[<- hW1];have:=World.alloc_heap_new (w.alloc (.deferred (some []))) (.loop (rec .ready none));rwa [World.size_alloc] at this
 have hK1:W1.heap[w.heap.size]? = some (.deferred (some [])):=by
  rw[<- hW1];exact (Below.heap_alloc _ _ _ (by simp)).trans (World.alloc_heap_new w _)
 have hI1:I 0 S0 W1:=by rw[<- hW1];exact (hI 0 S0).alloc _ ((hI 0 S0).alloc _ h0)
 have hb1:Below w.heap.size w W1:=by rw[<- hW1];exact ((Below.refl _ w).alloc (Nat.le_refl _) _).alloc (by simp) _
 have hT1:Keeps R w0 W1:=hw0.trans (Keeps.of_below hb1 fun b hb=>Nat.lt_of_lt_of_le (hseq.1 b hb) hw0.size);have hRw:∀ b,R b->b<w.heap.size:=fun b hb=>Nat.lt_of_lt_of_le (hseq.1 b hb) hw0.size
 refine⟨w.heap.size+1,[{ target:=.collected w.heap.size,args:=#[] }],W1, { target:=.fn (.func gf) lb,args:=#[.func (.yield (w.heap.size+1)) #[] #[]] },W1,gf,
  #[.func (.yield (w.heap.size+1)) #[] #[]] ++ lb,W1,?_,?_,?_,?_,fun _=>h1,?_⟩
 ·rw[<- hW1,hrec];exact run_enterLoop_outer _ _ _ _ _
 ·simp only[resolve,hg]
  simp[go_sem]
 ·intro f' hf';simp[Target.leads] at hf';subst hf';exact hFg
 ·simp[invoke,go_sem,eg]
 have hcall:=hseq.2 (w.heap.size+1)
  (fun k S W=>∃ S',S=(fun b=>S' b\/b=w.heap.size+1)/\(¬ S' (w.heap.size+1)/\Step S0 S' w W /\ ∀ b,S' b->b<W.heap.size)/\I k S' W/\W.heap[w.heap.size+1]? = some (.loop (rec .ready none)) /\ ¬ S' w.heap.size/\W.heap[w.heap.size]? = some (.deferred (some [])))
  (fun S W=>∃ S' c,S=(fun b=>S' b\/b=w.heap.size+1)/\(¬ S' (w.heap.size+1)/\Step S0 S' w W /\ ∀ b,S' b->b<W.heap.size)/\Ix c S' W/\W.heap[w.heap.size+1]? = some (.loop (rec .done (some c))) /\ ¬ S' w.heap.size/\W.heap[w.heap.size]? = some (.deferred (some [])))
  (fun b=>S0 b\/b=w.heap.size+1) W1 hT1
  (fun b hb=>by
   rcases hb with hb | rfl
   ·exact⟨(hS0 b hb).1,by have:=(hS0 b hb).2;omega⟩
   ·exact⟨fun h=>by have:=hRw _ h;omega,by omega⟩)
  (fun k S=>Grow.ex fun S'=>by
   refine⟨?_,?_⟩
   ·rintro W W' ⟨e,⟨n1,n2,n3⟩,hi,hl,hd,hk⟩ hb
    exact⟨e,⟨n1,n2.trans (Step.of_below hb),fun b hb'=>Nat.lt_of_lt_of_le (n3 b hb') hb.size⟩,(hI k S').below hi hb,loop_below hb hl,hd,loop_below hb hk⟩
   ·rintro W l' o o' ⟨e,⟨n1,n2,n3⟩,hi,hl,hd,hk⟩ hle ho hc
    refine⟨e,⟨n1,?_,fun b hb'=>by rw[World.putObj_size];exact n3 b hb'⟩,(hI k S').put o' hi (by omega) ho hc,(World.putObj_heap_other (by omega)).trans hl,hd,(World.putObj_heap_other (by omega)).trans hk⟩;exact⟨n2.os,n2.tape,n2.output,by rw[World.putObj_size];exact n2.size,fun b hb hS=>(World.putObj_heap_other (by omega)).trans (n2.keep b hb hS),n2.sub⟩)
  (fun S=>Grow.ex fun S'=>Grow.ex fun c=>by
   refine⟨?_,?_⟩
   ·rintro W W' ⟨e,⟨n1,n2,n3⟩,hi,hl,hd,hk⟩ hb
    exact⟨e,⟨n1,n2.trans (Step.of_below hb),fun b hb'=>Nat.lt_of_lt_of_le (n3 b hb') hb.size⟩,(hIx c S').below hi hb,loop_below hb hl,hd,loop_below hb hk⟩
   ·rintro W l' o o' ⟨e,⟨n1,n2,n3⟩,hi,hl,hd,hk⟩ hle ho hc
    refine⟨e,⟨n1,?_,fun b hb'=>by rw[World.putObj_size];exact n3 b hb'⟩,(hIx c S').put o' hi (by omega) ho hc,(World.putObj_heap_other (by omega)).trans hl,hd,(World.putObj_heap_other (by omega)).trans hk⟩;exact⟨n2.os,n2.tape,n2.output,by rw[World.putObj_size];exact n2.size,fun b hb hS=>(World.putObj_heap_other (by omega)).trans (n2.keep b hb hS),n2.sub⟩)
  (by
   rintro k x args z S1 W hx ⟨S',rfl,⟨n1,n2,n3⟩,hi,hl,hd,hk⟩ hz hzW hst hphi;have hkr:Keeps R w0 W:=hT1.trans (hst.keeps fun b hb=>⟨by have:=hRw b hb;omega,by
    rintro (h | h)
    ·exact (hS0 b h).1 hb
    ·have:=hRw b hb;omega⟩)
   refine (yield_round (B:=w.heap.size) (rec:=rec) ⟨w.heap.size,hrec⟩ hfn (Nat.le_succ _) hI hIx (fun args=>hΦ x args z) (hAx x) k S' args (hps x args z W hphi) W hl n1 n3 hi hphi
    (fun K hK=>hassign _ k S' x args z W K hx hi hphi hK)
    (fun a' W2 hr h12 hi2 hphi2 hax=>hbody _ k S' x args z _ a' W2 (Nat.le_succ _) hr hx (fun b hb=>hz b (.inl hb)) hzW h12.size n1
     (hkr.trans (h12.keeps fun b hb=>⟨by have:=hRw b hb;have:=n2.size;omega,fun e=>by have:=hRw b hb;omega⟩)) hi2 hphi2 hax)).mono ?_
   have hlt:w.heap.size<W.heap.size:=(Array.getElem?_eq_some_iff.1 hk).1;rintro e W' (⟨rfl,S'',hs,hsb',hn,hi',hl'⟩ | ⟨rfl,c,S'',hs,hsb',hn,hi',hl'⟩)
   ·have hd':¬ S'' w.heap.size:=fun h=>by
     rcases hs.sub _ (.inl h) with (h1 | h1) | h1
     ·exact hd h1
     ·omega
     ·omega
    have hl1':w.heap.size+1<W'.heap.size:=(Array.getElem?_eq_some_iff.1 hl').1;refine .inl ⟨rfl,_,hs,?_,S'',rfl,⟨hn,?_,hsb'⟩,hi',hl',hd',(hs.keep _ hlt (by rintro (h | h);exact hd h;omega)).trans hk⟩
    ·rintro b (h | rfl)
     ·exact hsb' b h
     ·exact hl1'
    ·have hst2:Step S0 (fun b=>S'' b\/b=w.heap.size+1) w W':=Step.drop (T:=fun b=>b=w.heap.size+1) ((n2.wide _).trans hs) (fun b e=>by omega)
     exact hst2.narrow fun b hb=>.inl hb
   ·have hd':¬ S'' w.heap.size:=fun h=>by
     rcases hs.sub _ (.inl h) with (h1 | h1) | h1
     ·exact hd h1
     ·omega
     ·omega
    have hl1':w.heap.size+1<W'.heap.size:=(Array.getElem?_eq_some_iff.1 hl').1;refine .inr ⟨rfl,_,hs,?_,S'',c,rfl,⟨hn,?_,hsb'⟩,hi',hl',hd',(hs.keep _ hlt (by rintro (h | h);exact hd h;omega)).trans hk⟩
    ·rintro b (h | rfl)
     ·exact hsb' b h
     ·exact hl1'
    ·have hst2:Step S0 (fun b=>S'' b\/b=w.heap.size+1) w W':=Step.drop (T:=fun b=>b=w.heap.size+1) ((n2.wide _).trans hs) (fun b e=>by omega)
     exact hst2.narrow fun b hb=>.inl hb)
  ⟨S0,rfl,⟨fun h=>by have:=(hS0 _ h).2;omega,Step.of_below hb1,fun b hb=>by have:=(hS0 b hb).2;omega⟩,hI1,hL1,fun h=>by have:=(hS0 _ h).2;omega,hK1⟩
 have stp:∀ {S':Nat->Prop} {W2:World} {o:Obj} (o':Obj),Step S0 S' w W2->Step S0 S' w (W2.putObj (w.heap.size+1) o'):=fun o' n2 =>
  ⟨n2.os,n2.tape,n2.output,by rw[World.putObj_size];exact n2.size,fun b hb hS=>(World.putObj_heap_other (by omega)).trans (n2.keep b hb hS),n2.sub⟩
 refine hcall.mono ?_;rintro e W2 ⟨⟨v,rfl⟩,S2,hs2,hsb2,(⟨S',rfl,⟨n1,n2,n3⟩,hi,hl,hd,hk⟩ | ⟨S',c,rfl,⟨n1,n2,n3⟩,hi,hl,hd,hk⟩)⟩
 ·refine⟨none,_,by have:=run_endLoop (P:=P) hl (by rw[hrec];simp);rw[hrec] at this;exact this,?_⟩
  exact hdone _ S' _ (Nat.le_refl _) hd (stp (o:=.deferred none) _ n2) (fun b hb=>by rw[World.putObj_size];exact n3 b hb) ((hI _ _).put _ hi (Nat.le_succ _) hl rfl) ((World.putObj_heap_other (by omega)).trans hk)
 ·refine⟨some c,_,by have:=run_endLoop (P:=P) hl (by rw[hrec];simp);rw[hrec] at this;exact this,?_⟩
  exact hstop _ c S' _ (Nat.le_refl _) hd (stp (o:=.deferred none) _ n2) (fun b hb=>by rw[World.putObj_size];exact n3 b hb) ((hIx _ _).put _ hi (Nat.le_succ _) hl rfl) ((World.putObj_heap_other (by omega)).trans hk)
theorem range_outer {g:Operand} {ps:Array Tmp} {assign body:Code} {Q:Exit->Act->World->Prop} {a:Act} {w:World}
  (hro:F.round=none) (h1:1<=n) {gf:Nat} {lb:Array Value} (hg:a.eval g = .func (.func gf) #[] lb) (hFg:F.fn gf) (eg:∀ args w,(callFunc gf args).run P w = .ok (.enter gf args) w)
  {items:List β} {Φ:β->Array Value->World->Prop} {R:Nat->Prop} {w0:World} (hseq:IterOn F (n - 1) P gf lb items Φ R w0) (hw0:Keeps R w0 w) (hps:∀ x args W,Φ x args W->args.size=ps.size)
  (I:Nat->(Nat->Prop)->World->Prop) (Ix:Code->(Nat->Prop)->World->Prop) (Ax:β->Array Value->Act->World->Prop)
  (hI:∀ k S,Grow w.heap.size (I k S)) (hIx:∀ c S,Grow w.heap.size (Ix c S)) (hΦ:∀ x args,Grow w.heap.size (Φ x args)) (hAx:∀ x args a',Grow w.heap.size (Ax x args a'))
  (S0:Nat->Prop) (hS0:∀ b,S0 b -> ¬ R b/\b<w.heap.size) (h0:I 0 S0 w)
  (hassign:∀ (l k:Nat) (S:Nat->Prop) (x:β) (args:Array Value) (W:World) (K:Act->World->Prop),items[k]? = some x->I k S W->Φ x args W->(∀ a' W',Below W.heap.size W W'->Ax x args a' W'->K a' W') ->
   assign.wpIn (F.inRound l) (n - 1 - 1) P (Exit.then K (fun _ _ _=>False)) { tmps:=(ps.zip args).foldl (fun t (p,v)=>t.setIfInBounds p v) a.tmps,defers:=[] } W)
  (hbody:∀ (l k:Nat) (S:Nat->Prop) (x:β) (args:Array Value) (a':Act) (W:World),w.heap.size<=l->(∃ r,W.heap[l]? = some (.loop r))->items[k]? = some x->(∀ b,S b->b<W.heap.size) -> ¬ S l->Keeps R w0 W->I k S W->Φ x args W->Ax x args a' W ->
   body.wpIn (F.inRound l) (n - 1 - 1) P (roundEnd I Ix S k W) a' W)
  (hdone:∀ (D:Nat) (S:Nat->Prop) (W:World),w.heap.size<=D -> ¬ S D->Step S0 S w W->(∀ b,S b->b<W.heap.size)->I items.length S W->W.heap[D]? = some (.deferred (some []))->Q .normal { a with defers:={ target:=.collected D,args:=#[] } :: a.defers } W)
  (hstop:∀ (D:Nat) (c:Code) (S:Nat->Prop) (W:World),w.heap.size<=D -> ¬ S D->Step S0 S w W->(∀ b,S b->b<W.heap.size)->Ix c S W->W.heap[D]? = some (.deferred (some []))->c.wpIn F n P Q { a with defers:={ target:=.collected D,args:=#[] } :: a.defers } W) :
  (Code.rangeFunc g ps assign body).wpIn F n P Q a w :=
 range_outerB hro h1 hg hFg eg hseq.toB hw0 (fun x args _ W=>hps x args W) I Ix (fun x args _ a' W=>Ax x args a' W) hI hIx (fun x args _=>hΦ x args) (fun x args _ a'=>hAx x args a') S0 hS0 h0 (fun l k S x args _=>hassign l k S x args) (fun l k S x args z n0 a' W q1 q2 q3 q4 q5 q6=>hbody l k S x args a' W q1 q2 q3 (fun b hb=>Nat.lt_of_lt_of_le (q4 b hb) (Nat.le_trans q5 q6))) hdone hstop
end
end Go.Proofs.YtmkgecapkeojaaaGreat.Run
end
section
namespace Go.Proofs.YtmkgecapkeojaaaGreat.SortP
variable {α:Type}
structure Ord (cf:α->α->Int):Prop where
 asymm:∀ x y,cf x y<0 -> ¬ cf y x<0
 trans:∀ x y z, ¬ cf y x<0 -> ¬ cf z y<0 -> ¬ cf z x<0
def Le (cf:α->α->Int) (x y:α):Prop := ¬ cf y x<0
def Up (cf:α->α->Int) (g:Nat->α) (a b:Nat):Prop := ∀ x y,a<=x->x<y->y<b->Le cf (g x) (g y)
def exch (g:Nat->α) (i j:Nat):Nat->α:=fun k=>if k=i then g j else if k=j then g i else g k
def row (g:Nat->α) (n:Nat):List α:=(List.range n).map g
theorem row_len (g:Nat->α) (n:Nat):(row g n).length=n:=by simp[row]
theorem row_get (g:Nat->α) (n i:Nat) (h:i<n):(row g n)[i]? = some (g i):=by simp[row,h]
theorem exch_perm (g:Nat->α) (n i j:Nat) (hi:i<n) (hj:j<n):(row (exch g i j) n).Perm (row g n):=by
 have hA:(row g n).toArray.size=n:=by simp[row]
 have h:=Array.swap_perm (xs:=(row g n).toArray) (i:=i) (j:=j) (by rw[hA];exact hi) (by rw[hA];exact hj);have h2:=Array.perm_iff_toList_perm.1 h;have e:((row g n).toArray.swap i j (by rw[hA];exact hi) (by rw[hA];exact hj)).toList=row (exch g i j) n:=by
  refine List.ext_getElem? fun k=>?_
  rcases Nat.lt_or_ge k n with c | c
  ·rw[row_get _ n k c]
   rw[Array.getElem?_toList,Array.getElem?_swap];unfold exch;simp only[List.getElem_toArray,List.getElem?_toArray];have gi:(row g n)[i]'(by rw[row_len];exact hi)=g i:=by simp[row]
   have gj:(row g n)[j]'(by rw[row_len];exact hj)=g j:=by simp[row]
   rw[gi,gj,row_get g n k c];clear h h2 gi gj
   by_cases p1:k=i
   ·subst p1
    by_cases p2:k=j
    ·subst p2;simp
    ·simp[Ne.symm p2]
   ·by_cases p2:k=j
    ·subst p2;simp[p1]
    ·simp[p1,p2,Ne.symm p1,Ne.symm p2]
  ·rw[List.getElem?_eq_none (by simp[row];exact c),List.getElem?_eq_none (by rw[row_len];exact c)]
 rw[e] at h2;exact h2
theorem exch_left (g:Nat->α) (i j:Nat):exch g i j i=g j:=by simp[exch]
theorem exch_right (g:Nat->α) (i j:Nat):exch g i j j=g i:=by unfold exch;split <;> simp_all
theorem exch_other (g:Nat->α) {i j k:Nat} (h1:k ≠ i) (h2:k ≠ j):exch g i j k=g k:=by simp[exch,h1,h2]
theorem Le.of_lt {cf:α->α->Int} (o:Ord cf) {x y:α} (h:cf x y<0):Le cf x y:=o.asymm x y h
theorem Up.congr {cf:α->α->Int} {g g':Nat->α} {a b:Nat} (h:Up cf g a b) (e:∀ k,a<=k->k<b->g' k=g k):Up cf g' a b:=fun x y h1 h2 h3=>by rw[e x h1 (by omega),e y (by omega) h3];exact h x y h1 h2 h3
theorem Up.sub {cf:α->α->Int} {g:Nat->α} {a b a' b':Nat} (h:Up cf g a b) (h1:a<=a') (h2:b'<=b):Up cf g a' b':=fun x y k1 k2 k3=>h x y (by omega) k2 (by omega)
theorem Up.one (cf:α->α->Int) (g:Nat->α) (a b:Nat) (h:b<=a+1):Up cf g a b:=fun x y h1 h2 h3=>by omega
theorem Up.join {cf:α->α->Int} {g:Nat->α} {a m b:Nat} (h1:Up cf g a m) (h2:Up cf g m b) (h:∀ x y,a<=x->x<m->m<=y->y<b->Le cf (g x) (g y)):Up cf g a b:=fun x y k1 k2 k3=>by
 rcases Nat.lt_or_ge y m with c | c
 ·exact h1 x y k1 k2 c
 ·rcases Nat.lt_or_ge x m with d | d
  ·exact h x y k1 d c k3
  ·exact h2 x y d k2 k3
def Ins (cf:α->α->Int) (g:Nat->α) (a i j:Nat):Prop := ∀ x y,a<=x->x<y->y<=i->y ≠ j->Le cf (g x) (g y)
theorem ins_start {cf:α->α->Int} {g:Nat->α} {a i:Nat} (h:Up cf g a i):Ins cf g a i i:=fun x y h1 h2 h3 h4=>h x y h1 h2 (by omega)
theorem ins_step {cf:α->α->Int} (o:Ord cf) {g:Nat->α} {a i j:Nat} (h:Ins cf g a i (j+1)) (ha:a<=j) (hj:j+1<=i) (hl:cf (g (j+1)) (g j)<0):Ins cf (exch g (j+1) j) a i j:=by
 intro x y h1 h2 h3 h4
 by_cases y1:y=j+1
 ·subst y1
  rw[exch_left]
  by_cases x1:x=j
  ·subst x1;rw[exch_right];exact Le.of_lt o hl
  ·rw[exch_other g (by omega) x1]
   exact h x j h1 (by omega) (by omega) (by omega)
 ·rw[exch_other g y1 h4]
  by_cases x1:x=j+1
  ·subst x1;rw[exch_left];exact h j y (by omega) (by omega) h3 y1
  ·by_cases x2:x=j
   ·subst x2;rw[exch_right];exact h (x+1) y (by omega) (by omega) h3 y1
   ·rw[exch_other g x1 x2];exact h x y h1 h2 h3 y1
theorem ins_done {cf:α->α->Int} (o:Ord cf) {g:Nat->α} {a i j:Nat} (h:Ins cf g a i j) (hj:j<=i) (hd:j<=a \/ ∃ q,j=q+1 /\ ¬ cf (g j) (g q)<0):Up cf g a (i+1):=by
 intro x y h1 h2 h3
 by_cases y1:y=j
 ·subst y1
  rcases hd with hd | ⟨q,rfl,hd⟩
  ·omega
  ·by_cases x1:x=q
   ·subst x1;exact hd
   ·exact o.trans _ _ _ (h x q h1 (by omega) (by omega) (by omega)) hd
 ·exact h x y h1 h2 (by omega) y1
def swr (g:Nat->α) (a b n:Nat):Nat->α:=fun k=>if a<=k/\k<a+n then g (b+(k - a)) else if b<=k/\k<b+n then g (a+(k - b)) else g k
theorem swr_zero (g:Nat->α) (a b:Nat):swr g a b 0=g:=by
 funext k
 unfold swr;rw[if_neg (by omega),if_neg (by omega)]
theorem swr_step (g:Nat->α) (a b i:Nat) (h:a+i<b):exch (swr g a b i) (a+i) (b+i)=swr g a b (i+1):=by
 funext k
 unfold exch swr
 by_cases h1:k=a+i
 ·subst h1
  rw[if_pos rfl,if_neg (by omega),if_neg (by omega),if_pos (by omega)]
  congr 1
  omega
 ·rw[if_neg h1]
  by_cases h2:k=b+i
  ·subst h2
   rw[if_pos rfl,if_neg (by omega),if_neg (by omega),if_neg (by omega),if_pos (by omega)]
   congr 1
   omega
  ·rw[if_neg h2]
   by_cases h3:a<=k/\k<a+i
   ·rw[if_pos h3,if_pos (by omega)]
   ·rw[if_neg h3]
    by_cases h4:b<=k/\k<b+i
    ·rw[if_pos h4,if_neg (by omega),if_pos (by omega)]
    ·rw[if_neg h4,if_neg (by omega),if_neg (by omega)]
def Turned (g g':Nat->α) (a m b:Nat):Prop:=(∀ k,a<=k->k<a+(b - m)->g' k=g (m+(k - a)))/\(∀ k,a+(b - m)<=k->k<b->g' k=g (a+(k - (a+(b - m)))))/\(∀ k,k<a\/b<=k->g' k=g k)
structure Turn (g g':Nat->α) (a m b i j:Nat):Prop where
 lo:a+i<=m
 hi:m+j<=b
 low:i<=m - a
 done1:∀ k,a<=k->k<m - i->g' k=if k<a+(b - m) then g (m+(k - a)) else g (a+(k - (a+(b - m))))
 done2:∀ k,m+j<=k->k<b->g' k=if k<a+(b - m) then g (m+(k - a)) else g (a+(k - (a+(b - m))))
 rest:∀ k,m - i<=k->k<m+j->(if k<m - i+j then g' (m+(k - (m - i))) else g' (m - i+(k - (m - i+j))))=if k<a+(b - m) then g (m+(k - a)) else g (a+(k - (a+(b - m))))
 out:∀ k,k<a\/b<=k->g' k=g k
theorem turn_start (g:Nat->α) (a m b:Nat) (h1:a<=m) (h2:m<=b):Turn g g a m b (m - a) (b - m):=by
 refine⟨by omega,by omega,by omega,fun k k1 k2=>by omega,fun k k1 k2=>by omega,fun k k1 k2=>?_,fun _ _=>rfl⟩;rw[show m - (m - a)=a by omega]
theorem turn_more (g g':Nat->α) (a m b i j:Nat) (h:Turn g g' a m b i j) (hij:j<i) (hj:0<j):Turn g (swr g' (m - i) m j) a m b (i - j) j:=by
 have e1:=h.lo;have e2:=h.hi;have e3:=h.low;refine⟨by omega,by omega,by omega,fun k k1 k2=>?_,fun k k1 k2=>?_,fun k k1 k2=>?_,fun k hk=>?_⟩
 ·rcases Nat.lt_or_ge k (m - i) with c | c
  ·rw[<- h.done1 k k1 c]
   unfold swr;rw[if_neg (by omega),if_neg (by omega)]
  ·have:=h.rest k c (by omega)
   rw[if_pos (by omega)] at this;rw[<- this];unfold swr;rw[if_pos (by omega)]
 ·rw[<- h.done2 k k1 k2]
  unfold swr;rw[if_neg (by omega),if_neg (by omega)]
 ·rw[<- h.rest k (by omega) k2,if_neg (show ¬ k<m - i+j by omega)]
  unfold swr
  by_cases c:k<m - (i - j)+j
  ·rw[if_pos c,if_neg (by omega),if_pos (by omega)]
   congr 1
   omega
  ·rw[if_neg c,if_neg (by omega),if_neg (by omega)]
   congr 1
   omega
 ·rw[<- h.out k hk]
  unfold swr;rw[if_neg (by omega),if_neg (by omega)]
theorem turn_less (g g':Nat->α) (a m b i j:Nat) (h:Turn g g' a m b i j) (hij:i<j) (hi:0<i):Turn g (swr g' (m - i) (m+j - i) i) a m b i (j - i):=by
 have e1:=h.lo;have e2:=h.hi;have e3:=h.low;refine⟨by omega,by omega,by omega,fun k k1 k2=>?_,fun k k1 k2=>?_,fun k k1 k2=>?_,fun k hk=>?_⟩
 ·rw[<- h.done1 k k1 k2]
  unfold swr;rw[if_neg (by omega),if_neg (by omega)]
 ·rcases Nat.lt_or_ge k (m+j) with c | c
  ·have:=h.rest k (by omega) c
   rw[if_neg (by omega)] at this;rw[<- this];unfold swr;rw[if_neg (by omega),if_pos (by omega)]
   congr 1
   omega
  ·rw[<- h.done2 k c k2]
   unfold swr;rw[if_neg (by omega),if_neg (by omega)]
 ·rw[<- h.rest k k1 (by omega),if_pos (show k<m - i+j by omega)]
  unfold swr
  by_cases c:k<m - i+(j - i)
  ·rw[if_pos c,if_neg (by omega),if_neg (by omega)]
  ·rw[if_neg c,if_pos (by omega)]
   congr 1
   omega
 ·rw[<- h.out k hk]
  unfold swr;rw[if_neg (by omega),if_neg (by omega)]
theorem turn_end (g g':Nat->α) (a m b i:Nat) (h:Turn g g' a m b i i):Turned g (swr g' (m - i) m i) a m b:=by
 have e1:=h.lo;have e2:=h.hi;have e3:=h.low;have all:∀ k,a<=k->k<b->swr g' (m - i) m i k=if k<a+(b - m) then g (m+(k - a)) else g (a+(k - (a+(b - m)))):=fun k k1 k2=>by
  rcases Nat.lt_or_ge k (m - i) with c | c
  ·rw[<- h.done1 k k1 c]
   unfold swr;rw[if_neg (by omega),if_neg (by omega)]
  ·rcases Nat.lt_or_ge k (m+i) with d | d
   ·rw[<- h.rest k c d]
    unfold swr
    by_cases f:k<m - i+i
    ·rw[if_pos f,if_pos (by omega)]
    ·rw[if_neg f,if_neg (by omega),if_pos (by omega)]
     congr 1
     omega
   ·rw[<- h.done2 k d k2]
    unfold swr;rw[if_neg (by omega),if_neg (by omega)]
 refine⟨fun k k1 k2=>?_,fun k k1 k2=>?_,fun k hk=>?_⟩
 ·rw[all k k1 (by omega),if_pos k2]
 ·rw[all k (by omega) k2,if_neg (by omega)]
 ·rw[<- h.out k hk]
  unfold swr;rw[if_neg (by omega),if_neg (by omega)]
def shiftUp (g:Nat->α) (a q:Nat):Nat->α:=fun k=>if a<=k/\k<a+q then g (k+1) else if k=a+q then g a else g k
theorem shiftUp_zero (g:Nat->α) (a:Nat):shiftUp g a 0=g:=by
 funext k
 unfold shiftUp;rw[if_neg (by omega)]
 split
 ·rename_i h;rw[h];rfl
 ·rfl
theorem shiftUp_step (g:Nat->α) (a q:Nat):exch (shiftUp g a q) (a+q) (a+q+1)=shiftUp g a (q+1):=by
 funext k
 unfold exch shiftUp
 by_cases h1:k=a+q
 ·subst h1;rw[if_pos rfl,if_neg (by omega),if_neg (by omega),if_pos (by omega)]
 ·rw[if_neg h1]
  by_cases h2:k=a+q+1
  ·subst h2;rw[if_pos rfl,if_neg (by omega),if_pos rfl,if_neg (by omega),if_pos (by omega)]
  ·rw[if_neg h2]
   by_cases h3:a<=k/\k<a+q
   ·rw[if_pos h3,if_pos (by omega)]
   ·rw[if_neg h3,if_neg h1,if_neg (by omega),if_neg (by omega)]
theorem shiftUp_up {cf:α->α->Int} (o:Ord cf) {g:Nat->α} {a b q:Nat} (h:Up cf g (a+1) b) (hq:a+1+q<=b) (h1:q=0\/cf (g (a+q)) (g a)<0) (h2:a+q+1=b \/ ¬ cf (g (a+q+1)) (g a)<0):Up cf (shiftUp g a q) a b:=by
 intro x y k1 k2 k3;have lo:∀ k,a+1<=k->k<=a+q->Le cf (g k) (g a):=fun k c1 c2=>by
  rcases h1 with h1 | h1
  ·omega
  ·by_cases c:k=a+q
   ·rw[c];exact Le.of_lt o h1
   ·exact o.trans _ _ _ (h k (a+q) c1 (by omega) (by omega)) (Le.of_lt o h1)
 have hi:∀ k,a+q+1<=k->k<b->Le cf (g a) (g k):=fun k c1 c2=>by
  rcases h2 with h2 | h2
  ·omega
  ·by_cases c:k=a+q+1
   ·rw[c];exact h2
   ·exact o.trans _ _ _ h2 (h (a+q+1) k (by omega) (by omega) c2)
 unfold shiftUp
 by_cases x1:x<a+q
 ·rw[if_pos ⟨k1,x1⟩]
  by_cases y1:y<a+q
  ·rw[if_pos ⟨by omega,y1⟩];exact h (x+1) (y+1) (by omega) (by omega) (by omega)
  ·rw[if_neg (by omega)]
   by_cases y2:y=a+q
   ·rw[if_pos y2];exact lo (x+1) (by omega) (by omega)
   ·rw[if_neg y2];exact h (x+1) y (by omega) (by omega) k3
 ·rw[if_neg (by omega)]
  by_cases x2:x=a+q
  ·rw[if_pos x2,if_neg (by omega),if_neg (by omega)];exact hi y (by omega) k3
  ·rw[if_neg x2,if_neg (by omega),if_neg (by omega)];exact h x y (by omega) k2 k3
def shiftDown (g:Nat->α) (m q:Nat):Nat->α:=fun k=>if m - q<k/\k<=m then g (k - 1) else if k=m - q then g m else g k
theorem shiftDown_zero (g:Nat->α) (m:Nat):shiftDown g m 0=g:=by
 funext k
 unfold shiftDown;rw[if_neg (by omega)]
 split
 ·rename_i h;rw[h];rfl
 ·rfl
theorem shiftDown_step (g:Nat->α) (m q:Nat) (h:q<m):exch (shiftDown g m q) (m - q) (m - q - 1)=shiftDown g m (q+1):=by
 funext k
 unfold exch shiftDown
 by_cases h1:k=m - q
 ·subst h1
  rw[if_pos rfl,if_neg (by omega),if_neg (by omega),if_pos (by omega)]
 ·rw[if_neg h1]
  by_cases h2:k=m - q - 1
  ·subst h2
   rw[if_pos rfl,if_neg (by omega),if_pos rfl,if_neg (by omega),if_pos (by omega)]
  ·rw[if_neg h2]
   by_cases h3:m - q<k/\k<=m
   ·rw[if_pos h3,if_pos (by omega)]
   ·rw[if_neg h3,if_neg h1,if_neg (by omega),if_neg (by omega)]
theorem shiftDown_up {cf:α->α->Int} (o:Ord cf) {g:Nat->α} {a m q:Nat} (h:Up cf g a m) (hq:a+q<=m) (h1:m - q=a \/ ¬ cf (g m) (g (m - q - 1))<0) (h2:q=0\/cf (g m) (g (m - q))<0):Up cf (shiftDown g m q) a (m+1):=by
 intro x y k1 k2 k3;have lo:∀ k,a<=k->k<m - q->Le cf (g k) (g m):=fun k c1 c2=>by
  rcases h1 with h1 | h1
  ·omega
  ·by_cases c:k=m - q - 1
   ·rw[c];exact h1
   ·exact o.trans _ _ _ (h k (m - q - 1) c1 (by omega) (by omega)) h1
 have hi:∀ k,m - q<=k->k<m->Le cf (g m) (g k):=fun k c1 c2=>by
  rcases h2 with h2 | h2
  ·omega
  ·by_cases c:k=m - q
   ·rw[c];exact Le.of_lt o h2
   ·exact o.trans _ _ _ (Le.of_lt o h2) (h (m - q) k (by omega) (by omega) c2)
 unfold shiftDown
 by_cases y1:m - q<y
 ·rw[if_pos (c:=m - q<y/\y<=m) ⟨y1,by omega⟩]
  by_cases x1:m - q<x
  ·rw[if_pos ⟨x1,by omega⟩];exact h (x - 1) (y - 1) (by omega) (by omega) (by omega)
  ·rw[if_neg (by omega)]
   by_cases x2:x=m - q
   ·rw[if_pos x2];exact hi (y - 1) (by omega) (by omega)
   ·rw[if_neg x2];exact h x (y - 1) (by omega) (by omega) (by omega)
 ·rw[if_neg (c:=m - q<y/\y<=m) (by omega),if_neg (c:=m - q<x/\x<=m) (by omega),if_neg (c:=x=m - q) (by omega)]
  by_cases y2:y=m - q
  ·rw[if_pos y2];exact lo x k1 (by omega)
  ·rw[if_neg y2];exact h x y k1 k2 (by omega)
structure Cut (cf:α->α->Int) (g:Nat->α) (a m b start:Nat):Prop where
 lo:a<=start
 le:start<=m
 hi:(a+b) / 2+m - start<=b
 mid:m<=(a+b) / 2+m - start
 left:start=a\/(a+b) / 2+m - start=b \/ ¬ cf (g ((a+b) / 2+m - start)) (g (start - 1))<0
 right:start=m\/(a+b) / 2+m - start=m\/cf (g ((a+b) / 2+m - start - 1)) (g start)<0
theorem cut_halves {cf:α->α->Int} (o:Ord cf) {g g':Nat->α} {a m b start:Nat} (h1:Up cf g a m) (h2:Up cf g m b) (hc:Cut cf g a m b start) (ht:Turned g g' start m ((a+b) / 2+m - start)) :
  Up cf g' a start/\Up cf g' start ((a+b) / 2)/\Up cf g' ((a+b) / 2) ((a+b) / 2+m - start)/\Up cf g' ((a+b) / 2+m - start) b /\ ∀ x y,a<=x->x<(a+b) / 2->(a+b) / 2<=y->y<b->Le cf (g' x) (g' y):=by
 have c1:=hc.lo;have c2:=hc.le;have c3:=hc.hi;have c4:=hc.mid;have cl:=hc.left;have cr:=hc.right;clear hc;obtain⟨t1,t2,t3⟩:=ht;have em:start+((a+b) / 2+m - start - m)=(a+b) / 2:=by omega
 rw[em] at t1 t2;generalize hM:(a+b) / 2=M at *;generalize hE:M+m - start=En at *;have l1:∀ x y,a<=x->x<start->start<=y->y<m->Le cf (g x) (g y):=fun x y q1 q2 q3 q4=>h1 x y q1 (by omega) q4
 have l2:∀ x y,m<=x->x<En->En<=y->y<b->Le cf (g x) (g y):=fun x y q1 q2 q3 q4=>h2 x y q1 (by omega) q4
 have l3:∀ x y,a<=x->x<start->En<=y->y<b->Le cf (g x) (g y):=fun x y q1 q2 q3 q4=>by
  rcases cl with h | h | h
  ·omega
  ·omega
  ·have s1:Le cf (g x) (g (start - 1))\/x=start - 1:=by
    by_cases e:x=start - 1
    ·exact .inr e
    ·exact .inl (h1 x (start - 1) q1 (by omega) (by omega))
   have s2:Le cf (g (start - 1)) (g y):=by
    by_cases e:y=En
    ·rw[e];exact h
    ·exact o.trans _ _ _ h (h2 En y (by omega) (by omega) q4)
   rcases s1 with s1 | s1
   ·exact o.trans _ _ _ s1 s2
   ·rw[s1];exact s2
 have l4:∀ x y,m<=x->x<En->start<=y->y<m->Le cf (g x) (g y):=fun x y q1 q2 q3 q4=>by
  rcases cr with h | h | h
  ·omega
  ·omega
  ·have s0:=Le.of_lt o h
   have s1:Le cf (g x) (g start):=by
    by_cases e:x=En - 1
    ·rw[e];exact s0
    ·exact o.trans _ _ _ (h2 x (En - 1) q1 (by omega) (by omega)) s0
   by_cases e:y=start
   ·rw[e];exact s1
   ·exact o.trans _ _ _ s1 (h1 start y (by omega) (by omega) q4)
 have v1:∀ k,a<=k->k<start->g' k=g k:=fun k q1 q2=>t3 k (.inl q2)
 have v2:∀ k,En<=k->g' k=g k:=fun k q1=>t3 k (.inr q1)
 refine⟨fun x y q1 q2 q3=>?_,fun x y q1 q2 q3=>?_,fun x y q1 q2 q3=>?_,fun x y q1 q2 q3=>?_,fun x y q1 q2 q3 q4=>?_⟩
 ·rw[v1 x q1 (by omega),v1 y (by omega) q3];exact h1 x y q1 q2 (by omega)
 ·rw[t1 x q1 (by omega),t1 y (by omega) q3];exact h2 _ _ (by omega) (by omega) (by omega)
 ·rw[t2 x q1 (by omega),t2 y (by omega) q3];exact h1 _ _ (by omega) (by omega) (by omega)
 ·rw[v2 x q1,v2 y (by omega)];exact h2 x y (by omega) q2 q3
 ·rcases Nat.lt_or_ge x start with d | d
  ·rw[v1 x q1 d]
   rcases Nat.lt_or_ge y En with f | f
   ·rw[t2 y q3 f];exact l1 _ _ q1 d (by omega) (by omega)
   ·rw[v2 y f];exact l3 _ _ q1 d f q4
  ·rw[t1 x d q2]
   rcases Nat.lt_or_ge y En with f | f
   ·rw[t2 y q3 f];exact l4 _ _ (by omega) (by omega) (by omega) (by omega)
   ·rw[v2 y f];exact l2 _ _ (by omega) (by omega) f q4
def SameOn (g g':Nat->α) (a b:Nat):Prop:=(∀ k,k<a\/b<=k->g' k=g k) /\ ∀ k,a<=k->k<b -> ∃ q,a<=q/\q<b/\g' k=g q
theorem SameOn.refl (g:Nat->α) (a b:Nat):SameOn g g a b:=⟨fun _ _=>rfl,fun k h1 h2=>⟨k,h1,h2,rfl⟩⟩
theorem SameOn.trans {g g' g'':Nat->α} {a b:Nat} (h:SameOn g g' a b) (k:SameOn g' g'' a b):SameOn g g'' a b:=by
 refine⟨fun i hi=>(k.1 i hi).trans (h.1 i hi),fun i h1 h2=>?_⟩;obtain⟨q,q1,q2,e⟩:=k.2 i h1 h2;obtain⟨r,r1,r2,e2⟩:=h.2 q q1 q2;exact⟨r,r1,r2,e.trans e2⟩
theorem SameOn.wide {g g':Nat->α} {a b a' b':Nat} (h:SameOn g g' a b) (h1:a'<=a) (h2:b<=b'):SameOn g g' a' b':=by
 refine⟨fun i hi=>h.1 i (by omega),fun i k1 k2=>?_⟩
 by_cases c:a<=i/\i<b
 ·obtain⟨q,q1,q2,e⟩:=h.2 i c.1 c.2
  exact⟨q,by omega,by omega,e⟩
 ·exact⟨i,k1,k2,h.1 i (by omega)⟩
theorem SameOn.exch (g:Nat->α) {a b i j:Nat} (h1:a<=i) (h2:i<b) (h3:a<=j) (h4:j<b):SameOn g (exch g i j) a b:=by
 refine⟨fun k hk=>exch_other g (by omega) (by omega),fun k k1 k2=>?_⟩
 by_cases c:k=i
 ·exact⟨j,h3,h4,by rw[c,exch_left]⟩
 ·by_cases d:k=j
  ·exact⟨i,h1,h2,by rw[d,exch_right]⟩
  ·exact⟨k,k1,k2,exch_other g c d⟩
theorem halves_up {cf:α->α->Int} {g g1 g2:Nat->α} {a M b:Nat} (hM1:a<=M) (hM2:M<=b) (s1:SameOn g g1 a M) (s2:SameOn g1 g2 M b) (u1:Up cf g1 a M) (u2:Up cf g2 M b)
  (h:∀ x y,a<=x->x<M->M<=y->y<b->Le cf (g x) (g y)):Up cf g2 a b:=by
 refine Up.join (u1.congr fun k k1 k2=>s2.1 k (.inl k2)) u2 fun x y k1 k2 k3 k4=>?_
 rw[s2.1 x (.inl k2)];obtain⟨p,p1,p2,e⟩:=s1.2 x k1 k2;obtain⟨q,q1,q2,e2⟩:=s2.2 y k3 k4;rw[e,e2,s1.1 q (.inr q1)];exact h p q p1 p2 q1 q2
theorem turned_same {g g':Nat->α} {a m b:Nat} (h:Turned g g' a m b) (h1:a<=m) (h2:m<=b):SameOn g g' a b:=by
 obtain⟨t1,t2,t3⟩:=h;refine⟨t3,fun k k1 k2=>?_⟩
 rcases Nat.lt_or_ge k (a+(b - m)) with c | c
 ·exact⟨_,by omega,by omega,t1 k k1 c⟩
 ·exact⟨_,by omega,by omega,t2 k c k2⟩
theorem turned_none {g:Nat->α} {a m b:Nat} (h:a=m\/m=b) (h1:a<=m) (h2:m<=b):Turned g g a m b:=by
 refine⟨fun k k1 k2=>?_,fun k k1 k2=>?_,fun _ _=>rfl⟩
 ·congr 1;omega
 ·congr 1;omega
theorem up_empty {cf:α->α->Int} {g:Nat->α} {a m b:Nat} (h1:Up cf g a m) (h2:Up cf g m b) (h:¬ (a<m/\m<b)) (h3:a<=m) (h4:m<=b):Up cf g a b:=by
 rcases Nat.lt_or_ge a m with c | c
 ·have:m=b:=by omega
  rw[<- this];exact h1
 ·have:a=m:=by omega
  rw[this];exact h2
end Go.Proofs.YtmkgecapkeojaaaGreat.SortP
end
section
namespace Go.Proofs.YtmkgecapkeojaaaGreat.SortM
open Go RowKit YtmkgecapkeojaaaGreatW.PrintWords Run SortP
variable {α:Type}
def Holds (enc:α->List Value) (k:Nat) (W:World) (blk:Nat) (t:TypeId) (n:Nat) (g:Nat->α):Prop :=
 ∃ C:Array Value,W.heap[blk]? = some (.cells C t (0,0))/\n*k<=C.size /\ ∀ i j u,i<n->(enc (g i))[j]? = some u->C[i*k+j]? = some u
theorem Holds.cell {enc:α->List Value} {k:Nat} {W:World} {blk:Nat} {t:TypeId} {n:Nat} {g:Nat->α} (h:Holds enc k W blk t n g) {i j:Nat} {u:Value} (hi:i<n) (hu:(enc (g i))[j]? = some u):W.cell? ⟨blk,i*k+j,none⟩=some u:=by
 obtain⟨C,hC,_,hc⟩:=h;exact (blk_cell hC _).trans (hc i j u hi hu)
theorem Holds.frozen {enc:α->List Value} {k:Nat} {W:World} {blk:Nat} {t:TypeId} {n:Nat} {g:Nat->α} (h:Holds enc k W blk t n g) (o:Nat):W.frozen? ⟨blk,o,none⟩=false:=by
 obtain⟨C,hC,_,hc⟩:=h;exact blk_frozen hC o
theorem Holds.below {enc:α->List Value} {k:Nat} {W W':World} {blk:Nat} {t:TypeId} {n:Nat} {g:Nat->α} (h:Holds enc k W blk t n g) (hb:Below W.heap.size W W'):Holds enc k W' blk t n g:=by
 obtain⟨C,hC,h1,hc⟩:=h;exact⟨C,blk_below hC hb,h1,hc⟩
theorem Holds.congr {enc:α->List Value} {k:Nat} {W:World} {blk:Nat} {t:TypeId} {n:Nat} {g g':Nat->α} (h:Holds enc k W blk t n g) (e:∀ i,i<n->g' i=g i):Holds enc k W blk t n g':=by
 obtain⟨C,hC,h1,hc⟩:=h;exact⟨C,hC,h1,fun i j u hi hu=>hc i j u hi (by rw[<- e i hi];exact hu)⟩
def OnlyB (blk:Nat):Nat->Prop:=fun b=>b=blk
theorem step_set (W:World) (blk o:Nat) (v:Value):Step (OnlyB blk) (OnlyB blk) W (W.setCell ⟨blk,o,none⟩ v):=by
 refine⟨rfl,rfl,rfl,by simp,fun b hb hS=>Below.heap_setCell W ⟨blk,o,none⟩ v b (fun e=>hS e),fun b h=>.inl h⟩
theorem step_below {blk:Nat} {W W':World} (h:Below W.heap.size W W'):Step (OnlyB blk) (OnlyB blk) W W':=Step.of_below h
theorem Holds.put2 {enc:α->List Value} {W:World} {blk:Nat} {t:TypeId} {n:Nat} {g:Nat->α} (h:Holds enc 2 W blk t n g) (hk:∀ x,(enc x).length=2) {i:Nat} (hi:i<n) (x:α) {u0 u1:Value} (hx:enc x=[u0,u1]) :
  Holds enc 2 ((W.setCell ⟨blk,i*2,none⟩ u0).setCell ⟨blk,i*2+1,none⟩ u1) blk t n (fun k=>if k=i then x else g k):=by
 obtain⟨C,hC,h1,hc⟩:=h;refine⟨_,blk_set (blk_set hC _ _) _ _,by simpa using h1,fun p j u hp hu=>?_⟩;have hj:j<2:=by have:=(List.getElem?_eq_some_iff.1 hu).1;rw[hk] at this;exact this
 rw[Array.getElem?_setIfInBounds,Array.getElem?_setIfInBounds];simp only[Array.size_setIfInBounds];have hu:(enc (if p=i then x else g p))[j]? = some u:=hu
 by_cases e:p=i
 ·subst e
  rw[if_pos rfl,hx] at hu
  match j,hj with
  | 0,_=>rw[if_neg (by omega),if_pos (by omega),if_pos (by omega)];simpa using hu
  | 1,_=>rw[if_pos (by omega),if_pos (by omega)];simpa using hu
 ·rw[if_neg e] at hu
  rw[if_neg (by omega),if_neg (by omega)];exact hc p j u hp hu
theorem Holds.put3 {enc:α->List Value} {W:World} {blk:Nat} {t:TypeId} {n:Nat} {g:Nat->α} (h:Holds enc 3 W blk t n g) (hk:∀ x,(enc x).length=3) {i:Nat} (hi:i<n) (x:α) {u0 u1 u2:Value} (hx:enc x=[u0,u1,u2]) :
  Holds enc 3 (((W.setCell ⟨blk,i*3,none⟩ u0).setCell ⟨blk,i*3+1,none⟩ u1).setCell ⟨blk,i*3+2,none⟩ u2) blk t n (fun k=>if k=i then x else g k):=by
 obtain⟨C,hC,h1,hc⟩:=h;refine⟨_,blk_set (blk_set (blk_set hC _ _) _ _) _ _,by simpa using h1,fun p j u hp hu=>?_⟩;have hj:j<3:=by have:=(List.getElem?_eq_some_iff.1 hu).1;rw[hk] at this;exact this
 rw[Array.getElem?_setIfInBounds,Array.getElem?_setIfInBounds,Array.getElem?_setIfInBounds];simp only[Array.size_setIfInBounds];have hu:(enc (if p=i then x else g p))[j]? = some u:=hu
 by_cases e:p=i
 ·subst e
  rw[if_pos rfl,hx] at hu
  match j,hj with
  | 0,_=>rw[if_neg (by omega),if_neg (by omega),if_pos (by omega),if_pos (by omega)];simpa using hu
  | 1,_=>rw[if_neg (by omega),if_pos (by omega),if_pos (by omega)];simpa using hu
  | 2,_=>rw[if_pos (by omega),if_pos (by omega)];simpa using hu
 ·rw[if_neg e] at hu
  rw[if_neg (by omega),if_neg (by omega),if_neg (by omega)];exact hc p j u hp hu
theorem Holds.exch2 {enc:α->List Value} {W:World} {blk:Nat} {t:TypeId} {n:Nat} {g:Nat->α} (h:Holds enc 2 W blk t n g) (hk:∀ x,(enc x).length=2) {i j:Nat} (hi:i<n) (hj:j<n) {u0 u1 v0 v1:Value} (hx:enc (g i)=[u0,u1]) (hy:enc (g j)=[v0,v1]) :
  Holds enc 2 ((((W.setCell ⟨blk,i*2,none⟩ v0).setCell ⟨blk,i*2+1,none⟩ v1).setCell ⟨blk,j*2,none⟩ u0).setCell ⟨blk,j*2+1,none⟩ u1) blk t n (exch g i j):=by
 refine ((h.put2 hk hi (g j) hy).put2 hk hj (g i) hx).congr fun k hk=>?_
 unfold exch
 by_cases h1:k=j
 ·subst h1
  by_cases h2:k=i
  ·subst h2;simp
  ·simp[h2]
 ·by_cases h2:k=i
  ·subst h2;simp[h1]
  ·simp[h1,h2]
theorem Holds.exch3 {enc:α->List Value} {W:World} {blk:Nat} {t:TypeId} {n:Nat} {g:Nat->α} (h:Holds enc 3 W blk t n g) (hk:∀ x,(enc x).length=3) {i j:Nat} (hi:i<n) (hj:j<n) {u0 u1 u2 v0 v1 v2:Value} (hx:enc (g i)=[u0,u1,u2]) (hy:enc (g j)=[v0,v1,v2]) :
  Holds enc 3 ((((((W.setCell ⟨blk,i*3,none⟩ v0).setCell ⟨blk,i*3+1,none⟩ v1).setCell ⟨blk,i*3+2,none⟩ v2).setCell ⟨blk,j*3,none⟩ u0).setCell ⟨blk,j*3+1,none⟩ u1).setCell ⟨blk,j*3+2,none⟩ u2) blk t n (exch g i j):=by
 refine ((h.put3 hk hi (g j) hy).put3 hk hj (g i) hx).congr fun k hk=>?_
 unfold exch
 by_cases h1:k=j
 ·subst h1
  by_cases h2:k=i
  ·subst h2;simp
  ·simp[h2]
 ·by_cases h2:k=i
  ·subst h2;simp[h1]
  ·simp[h1,h2]
theorem Holds.drew {enc:α->List Value} {k:Nat} {W:World} {blk:Nat} {t:TypeId} {n:Nat} {g:Nat->α} (h:Holds enc k W blk t n g):Holds enc k W.drew blk t n g:=h
theorem step_drew (S:Nat->Prop) {A B:World} (h:Step S S A B):Step S S A B.drew:=⟨h.os,h.tape,h.output,h.size,h.keep,h.sub⟩
theorem far_cell {W:World} {blk o o':Nat} {u:Value} (h:W.cell? ⟨blk,o',none⟩=some u) (hne:o ≠ o') (v:Value):(W.setCell ⟨blk,o,none⟩ v).cell? ⟨blk,o',none⟩=some u:=by
 rw[World.cell?_setCell_other (h:=fun e=>hne (congrArg Addr.off e))];exact h
theorem step_exch2 (W:World) (blk a b c d:Nat) (v0 v1 u0 u1:Value):Step (OnlyB blk) (OnlyB blk) W ((((W.setCell ⟨blk,a,none⟩ v0).setCell ⟨blk,b,none⟩ v1).setCell ⟨blk,c,none⟩ u0).setCell ⟨blk,d,none⟩ u1) :=
 (((step_set W blk a v0).trans (step_set _ blk b v1)).trans (step_set _ blk c u0)).trans (step_set _ blk d u1)
theorem step_exch3 (W:World) (blk a b c d e f:Nat) (v0 v1 v2 u0 u1 u2:Value):Step (OnlyB blk) (OnlyB blk) W ((((((W.setCell ⟨blk,a,none⟩ v0).setCell ⟨blk,b,none⟩ v1).setCell ⟨blk,c,none⟩ v2).setCell ⟨blk,d,none⟩ u0).setCell ⟨blk,e,none⟩ u1).setCell ⟨blk,f,none⟩ u2) :=
 (step_exch2 W blk a b c d v0 v1 v2 u0).trans ((step_set _ blk e u1).trans (step_set _ blk f u2))
structure BelowOf (w:World) where
 W:World
 h:Below w.heap.size w W
instance (w:World):Inhabited (BelowOf w):=⟨⟨w,Below.refl _ _⟩⟩
theorem wp_region_quiet_below {P:Program} {id:Nat} {Q:Exit->Act->World->Prop} {a:Act} {w:World} {l:List Oper} (hm:P.follows .mixedOrders=true) (hB:Region.lexB .any l.toArray=true)
  (h:wpQuiet P l.toArray (fun w'=>∃ p:BelowOf w,w'=p.W) (fun a'=>∀ w',(∃ p:BelowOf w,w'=p.W)->Q .normal a' w') l a):(Code.region id l.toArray true).wp P Q a w :=
 wp_region_quiet (C:=fun w'=>∃ p:BelowOf w,w'=p.W) hm hB ⟨⟨w.drew,below_drew (Below.refl _ _)⟩,rfl⟩ (by simpa using h)
theorem below_calls {P:Program} {f:FuncId} {args:Array Value} {w:World} {p:BelowOf w} {v:Value} (h:Calls P f args p.W fun e w'=>e = .returned v/\Below p.W.heap.size p.W w'):Calls P f args p.W fun e w''=>e = .returned v /\ ∃ q:BelowOf w,w''=q.W :=
 h.mono fun _ w' ⟨he,hb⟩=>⟨he,⟨w',p.h.trans (hb.mono p.h.size)⟩,rfl⟩
theorem BelowOf.cell {w:World} {a:Addr} {v:Value} (h:w.cell? a=some v) (p:BelowOf w):p.W.cell? a=some v:=pw_cell_below p.h h
end Go.Proofs.YtmkgecapkeojaaaGreat.SortM
end
section
namespace Go.Proofs.YtmkgecapkeojaaaGreat.Canon
variable {K:Type} [DecidableEq K]
structure KOrd (lt:K->K->Bool):Prop where
 irrefl:∀ a,lt a a=false
 trans:∀ a b c,lt a b=true->lt b c=true->lt a c=true
 tri:∀ a b,lt a b=true\/a=b\/lt b a=true
def J (l:List (K × Int)) (k:K):Int:=match l with
 | []=>0
 | x :: xs=>(if x.1=k then x.2 else 0)+J xs k
theorem J_nil (k:K):J ([]:List (K × Int)) k=0:=rfl
theorem J_cons (x:K × Int) (xs:List (K × Int)) (k:K):J (x :: xs) k=(if x.1=k then x.2 else 0)+J xs k:=rfl
theorem J_append (k:K):∀ (a b:List (K × Int)),J (a ++ b) k=J a k+J b k
 | [],b=>by simp[J_nil]
 | x :: xs,b=>by rw[List.cons_append,J_cons,J_cons,J_append k xs b];omega
theorem J_perm (k:K) {a b:List (K × Int)} (h:a.Perm b):J a k=J b k:=by
 induction h with
 | nil=>rfl
 | cons x _ ih=>rw[J_cons,J_cons,ih]
 | swap x y l=>rw[J_cons,J_cons,J_cons,J_cons];omega
 | trans _ _ ih1 ih2=>exact ih1.trans ih2
theorem J_none (k:K):∀ (l:List (K × Int)),(∀ x ∈ l,x.1 ≠ k)->J l k=0
 | [],_=>rfl
 | x :: xs,h=>by rw[J_cons,if_neg (h x List.mem_cons_self),J_none k xs (fun y hy=>h y (List.mem_cons_of_mem _ hy))];rfl
theorem J_filter0 (k:K):∀ (l:List (K × Int)),J (l.filter fun x=>decide (x.2 ≠ 0)) k=J l k
 | []=>rfl
 | x :: xs=>by
  rw[List.filter_cons]
  by_cases h:x.2=0
  ·rw[if_neg (by simp[h]),J_filter0 k xs,J_cons,h]
   split <;> omega
  ·rw[if_pos (by simp[h]),J_cons,J_cons,J_filter0 k xs]
theorem J_filterK (p:K->Bool) (k:K):∀ (l:List (K × Int)),J (l.filter fun x=>p x.1) k=if p k=true then J l k else 0
 | []=>by simp[J_nil]
 | x :: xs=>by
  rw[List.filter_cons]
  by_cases h:p x.1=true
  ·rw[if_pos h,J_cons,J_cons,J_filterK p k xs]
   by_cases e:x.1=k
   ·rw[<- e,if_pos h,if_pos h]
   ·rw[if_neg e];split <;> omega
  ·rw[if_neg h,J_filterK p k xs,J_cons]
   by_cases e:x.1=k
   ·rw[<- e,if_neg h,if_neg h]
   ·rw[if_neg e];split <;> omega
def IsCanon (lt:K->K->Bool) (l:List (K × Int)):Prop:=l.Pairwise (fun a b=>lt a.1 b.1=true) /\ ∀ x ∈ l,x.2 ≠ 0
theorem IsCanon.tail {K:Type} {lt:K->K->Bool} {x:K × Int} {l:List (K × Int)} (h:IsCanon lt (x :: l)):IsCanon lt l:=⟨(List.pairwise_cons.1 h.1).2,fun y hy=>h.2 y (List.mem_cons_of_mem _ hy)⟩
theorem canon_head {lt:K->K->Bool} (o:KOrd lt) {x:K × Int} {l:List (K × Int)} (h:IsCanon lt (x :: l)):J (x :: l) x.1=x.2:=by
 rw[J_cons,if_pos rfl,J_none x.1 l (fun y hy e=>?_)]
 ·omega
 ·have:=(List.pairwise_cons.1 h.1).1 y hy
  rw[e,o.irrefl] at this;cases this
theorem canon_below {lt:K->K->Bool} (o:KOrd lt) {x:K × Int} {l:List (K × Int)} (h:IsCanon lt (x :: l)) {k:K} (hk:lt k x.1=true):J (x :: l) k=0:=by
 refine J_none k _ (fun y hy e=>?_)
 rcases List.mem_cons.1 hy with rfl | hy
 ·rw[e,o.irrefl] at hk;cases hk
 ·have:=o.trans _ _ _ hk ((List.pairwise_cons.1 h.1).1 y hy)
  rw[e,o.irrefl] at this;cases this
theorem canon_uniq {lt:K->K->Bool} (o:KOrd lt):∀ (a b:List (K × Int)),IsCanon lt a->IsCanon lt b->(∀ k,J a k=J b k)->a=b
 | [],[],_,_,_=>rfl
 | [],y :: ys,_,hb,h=>by
  have h1:=h y.1;rw[canon_head o hb,J_nil] at h1;exact absurd h1.symm (hb.2 y List.mem_cons_self)
 | x :: xs,[],ha,_,h=>by
  have h1:=h x.1;rw[canon_head o ha,J_nil] at h1;exact absurd h1 (ha.2 x List.mem_cons_self)
 | x :: xs,y :: ys,ha,hb,h=>by
  rcases o.tri x.1 y.1 with c | c | c
  ·have h1:=h x.1
   rw[canon_head o ha,canon_below o hb c] at h1;exact absurd h1 (ha.2 x List.mem_cons_self)
  ·have h1:=h x.1
   rw[canon_head o ha,c,canon_head o hb] at h1;have e:x=y:=Prod.ext c h1;subst e;rw[canon_uniq o xs ys ha.tail hb.tail (fun k=>by have:=h k;rw[J_cons,J_cons] at this;omega)]
  ·have h1:=h y.1
   rw[canon_head o hb,canon_below o ha c] at h1;exact absurd h1.symm (hb.2 y List.mem_cons_self)
def ins (lt:K->K->Bool) (x:K × Int):List (K × Int)->List (K × Int)
 | []=>[x]
 | y :: ys=>if x.1=y.1 then (y.1,x.2+y.2) :: ys else if lt x.1 y.1=true then x :: y :: ys else y :: ins lt x ys
def canon (lt:K->K->Bool) (l:List (K × Int)):List (K × Int):=(l.foldr (ins lt) []).filter fun x=>decide (x.2 ≠ 0)
theorem J_ins (lt:K->K->Bool) (x:K × Int) (k:K):∀ (l:List (K × Int)),J (ins lt x l) k=J (x :: l) k
 | []=>rfl
 | y :: ys=>by
  unfold ins
  split
  ·rename_i h
   rw[J_cons,J_cons,J_cons,h]
   show (if y.1=k then x.2+y.2 else 0)+_=_
   split <;> omega
  ·split
   ·rfl
   ·rw[J_cons,J_ins lt x k ys,J_cons,J_cons,J_cons];omega
theorem J_canon (lt:K->K->Bool) (l:List (K × Int)) (k:K):J (canon lt l) k=J l k:=by
 unfold canon;rw[J_filter0]
 induction l with
 | nil=>rfl
 | cons x xs ih=>rw[List.foldr_cons,J_ins,J_cons,J_cons,ih]
theorem ins_mem (lt:K->K->Bool) (x:K × Int):∀ (l:List (K × Int)) (z:K × Int),z ∈ ins lt x l->z.1=x.1 \/ ∃ y ∈ l,z.1=y.1
 | [],z,h=>by rw[ins,List.mem_singleton] at h;exact .inl (by rw[h])
 | y :: ys,z,h=>by
  unfold ins at h
  split at h
  ·rcases List.mem_cons.1 h with rfl | h
   ·exact .inr ⟨y,List.mem_cons_self,rfl⟩
   ·exact .inr ⟨z,List.mem_cons_of_mem _ h,rfl⟩
  ·split at h
   ·rcases List.mem_cons.1 h with rfl | h
    ·exact .inl rfl
    ·exact .inr ⟨z,h,rfl⟩
   ·rcases List.mem_cons.1 h with rfl | h
    ·exact .inr ⟨z,List.mem_cons_self,rfl⟩
    ·rcases ins_mem lt x ys z h with e | ⟨w,hw,e⟩
     ·exact .inl e
     ·exact .inr ⟨w,List.mem_cons_of_mem _ hw,e⟩
theorem ins_pair {lt:K->K->Bool} (o:KOrd lt) (x:K × Int):∀ (l:List (K × Int)),l.Pairwise (fun a b=>lt a.1 b.1=true)->(ins lt x l).Pairwise (fun a b=>lt a.1 b.1=true)
 | [],_=>by rw[ins];exact List.pairwise_singleton _ _
 | y :: ys,h=>by
  obtain⟨h1,h2⟩:=List.pairwise_cons.1 h;unfold ins
  split
  ·exact List.pairwise_cons.2 ⟨h1,h2⟩
  ·rename_i hne
   split
   ·rename_i hlt
    refine List.pairwise_cons.2 ⟨fun z hz=>?_,h⟩
    rcases List.mem_cons.1 hz with rfl | hz
    ·exact hlt
    ·exact o.trans _ _ _ hlt (h1 z hz)
   ·rename_i hge
    refine List.pairwise_cons.2 ⟨fun z hz=>?_,ins_pair o x ys h2⟩
    rcases ins_mem lt x ys z hz with e | ⟨w,hw,e⟩
    ·rw[e]
     rcases o.tri x.1 y.1 with c | c | c
     ·exact absurd c hge
     ·exact absurd c hne
     ·exact c
    ·rw[e];exact h1 w hw
theorem canon_is {lt:K->K->Bool} (o:KOrd lt) (l:List (K × Int)):IsCanon lt (canon lt l):=by
 refine⟨List.Pairwise.filter _ ?_,fun x hx=>by simpa using (List.mem_filter.1 hx).2⟩
 induction l with
 | nil=>exact List.Pairwise.nil
 | cons x xs ih=>exact ins_pair o x _ ih
theorem canon_eq {lt:K->K->Bool} (o:KOrd lt) {l out:List (K × Int)} (h:IsCanon lt out) (hJ:∀ k,J out k=J l k):out=canon lt l:=canon_uniq o _ _ h (canon_is o l) (fun k=>(hJ k).trans (J_canon lt l k).symm)
theorem canon_congr {lt:K->K->Bool} (o:KOrd lt) {a b:List (K × Int)} (h:∀ k,J a k=J b k):canon lt a=canon lt b:=canon_eq o (canon_is o a) (fun k=>(J_canon lt a k).trans (h k))
theorem IsCanon.filter {K:Type} {lt:K->K->Bool} {l:List (K × Int)} (h:IsCanon lt l) (p:K × Int->Bool):IsCanon lt (l.filter p):=⟨h.1.filter _,fun x hx=>h.2 x (List.mem_filter.1 hx).1⟩
end Go.Proofs.YtmkgecapkeojaaaGreat.Canon
end
section
namespace Go.Proofs.YtmkgecapkeojaaaGreat.Cmp
variable {β γ:Type}
structure IsCmp (c:β->β->Int):Prop where
 zero:∀ x y,c x y=0 ↔ x=y
 anti:∀ x y,c x y<0 ↔ 0<c y x
 trans:∀ x y z,c x y<0->c y z<0->c x z<0
theorem IsCmp.self {c:β->β->Int} (h:IsCmp c) (x:β):c x x=0:=(h.zero x x).2 rfl
theorem IsCmp.le_trans {c:β->β->Int} (h:IsCmp c) {x y z:β} (h1:c x y<=0) (h2:c y z<=0):c x z<=0:=by
 by_cases e1:c x y=0
 ·rw[(h.zero x y).1 e1];exact h2
 ·by_cases e2:c y z=0
  ·rw[<- (h.zero y z).1 e2];exact h1
  ·have:=h.trans x y z (by omega) (by omega);omega
theorem IsCmp.not_lt {c:β->β->Int} (h:IsCmp c) {x y:β}:¬ c y x<0 ↔ c x y<=0:=by
 have h1:=h.anti y x;have h2:=h.anti x y;omega
theorem IsCmp.kord {c:β->β->Int} (h:IsCmp c):Canon.KOrd (fun x y=>decide (c x y<0)):=by
 refine⟨fun a=>DEF (by rw[h.self];omega),fun a b d h1 h2=>DET (h.trans _ _ _ (ODT h1) (ODT h2)),fun a b=>?_⟩;have h1:=h.anti b a;have h2:=h.zero a b
 by_cases e:c a b<0
 ·exact .inl (DET e)
 ·by_cases e2:c a b=0
  ·exact .inr (.inl (h2.1 e2))
  ·exact .inr (.inr (DET (by omega)))
def icmp (n m:Int):Int:=if n<m then -1 else if n > m then 1 else 0
theorem icmp_is:IsCmp icmp:=by
 refine⟨fun x y=>?_,fun x y=>?_,fun x y z=>?_⟩ <;> unfold icmp
 ·split
  ·simp;omega
  ·split <;> simp <;> omega
 ·repeat' split
  all_goals simp
  all_goals omega
 ·repeat' split
  all_goals simp
  all_goals omega
def bcmp (a b:UInt8):Int:=if a<b then -1 else if b<a then 1 else 0
theorem bcmp_icmp (a b:UInt8):bcmp a b=icmp (a.toNat:Int) (b.toNat:Int):=by
 unfold bcmp icmp;simp only[UInt8.lt_iff_toNat_lt]
 repeat' split
 all_goals first | rfl | omega
theorem bcmp_is:IsCmp bcmp:=by
 refine⟨fun x y=>?_,fun x y=>?_,fun x y z=>?_⟩
 ·rw[bcmp_icmp,icmp_is.zero]
  constructor
  ·intro h;exact UInt8.toNat_inj.1 (by omega)
  ·intro h;rw[h]
 ·rw[bcmp_icmp,bcmp_icmp];exact icmp_is.anti _ _
 ·rw[bcmp_icmp,bcmp_icmp,bcmp_icmp];exact icmp_is.trans _ _ _
def lexC (c:β->β->Int):List β->List β->Int
 | [],[]=>0
 | [],_ :: _ => -1
 | _ :: _,[]=>1
 | x :: xs,y :: ys=>if c x y=0 then lexC c xs ys else c x y
theorem lexC_zero {c:β->β->Int} (h:IsCmp c):∀ (x y:List β),lexC c x y=0 ↔ x=y
 | [],[]=>by simp[lexC]
 | [],_ :: _=>by simp[lexC]
 | _ :: _,[]=>by simp[lexC]
 | x :: xs,y :: ys=>by
  unfold lexC
  split
  ·rename_i e
   rw[lexC_zero h xs ys,(h.zero x y).1 e];simp
  ·rename_i e
   constructor
   ·intro e2;exact absurd e2 e
   ·intro e2
    have:=(List.cons.inj e2).1;exact absurd ((h.zero x y).2 this) e
theorem lexC_anti {c:β->β->Int} (h:IsCmp c):∀ (x y:List β),lexC c x y<0 ↔ 0<lexC c y x
 | [],[]=>by simp[lexC]
 | [],_ :: _=>by simp[lexC]
 | _ :: _,[]=>by simp[lexC]
 | x :: xs,y :: ys=>by
  unfold lexC;have a1:=h.anti x y;have a2:=h.anti y x
  by_cases e:c x y=0
  ·have e':c y x=0:=by rw[(h.zero x y).1 e];exact h.self y
   rw[if_pos e,if_pos e'];exact lexC_anti h xs ys
  ·have e':¬ c y x=0:=fun e2=>e (by rw[(h.zero y x).1 e2];exact h.self x)
   rw[if_neg e,if_neg e'];exact a1
theorem lexC_trans {c:β->β->Int} (h:IsCmp c):∀ (x y z:List β),lexC c x y<0->lexC c y z<0->lexC c x z<0
 | [],[],_,h1,_=>by simp[lexC] at h1
 | _ :: _,[],_,h1,_=>by simp[lexC] at h1
 | _,_ :: _,[],_,h2=>by simp[lexC] at h2
 | [],_ :: _,_ :: _,_,_=>by simp[lexC]
 | x :: xs,y :: ys,z :: zs,h1,h2=>by
  unfold lexC at h1 h2 ⊢
  by_cases e:c x y=0
  ·obtain rfl:=(h.zero x y).1 e
   rw[if_pos e] at h1
   by_cases e2:c x z=0
   ·rw[if_pos e2] at h2 ⊢
    exact lexC_trans h xs ys zs h1 h2
   ·rw[if_neg e2] at h2 ⊢;exact h2
  ·rw[if_neg e] at h1
   by_cases e2:c y z=0
   ·obtain rfl:=(h.zero y z).1 e2
    rw[if_neg e];exact h1
   ·rw[if_neg e2] at h2
    have h3:=h.trans x y z h1 h2;rw[if_neg (by omega)];exact h3
theorem lexC_is {c:β->β->Int} (h:IsCmp c):IsCmp (lexC c):=⟨lexC_zero h,lexC_anti h,lexC_trans h⟩
theorem compareBytes_lex:∀ (a b:List UInt8),Lib.compareBytes a b=lexC bcmp a b
 | [],[]=>rfl
 | [],_ :: _=>rfl
 | _ :: _,[]=>rfl
 | a :: xs,b :: ys=>by
  unfold Lib.compareBytes lexC;rw[compareBytes_lex xs ys];unfold bcmp
  by_cases h1:a<b
  ·simp[h1]
  ·by_cases h2:b<a
   ·simp[h1,h2]
   ·simp[h1,h2]
def pairC (c:β->β->Int) (d:γ->γ->Int) (x y:β × γ):Int:=if c x.1 y.1=0 then d x.2 y.2 else c x.1 y.1
theorem pairC_is {c:β->β->Int} {d:γ->γ->Int} (h:IsCmp c) (k:IsCmp d):IsCmp (pairC c d):=by
 refine⟨fun x y=>?_,fun x y=>?_,fun x y z=>?_⟩
 ·unfold pairC
  split
  ·rename_i e
   rw[k.zero];have:=(h.zero _ _).1 e
   constructor
   ·intro e2;exact Prod.ext this e2
   ·intro e2;rw[e2]
  ·rename_i e
   constructor
   ·intro e2;exact absurd e2 e
   ·intro e2;exact absurd ((h.zero _ _).2 (by rw[e2])) e
 ·unfold pairC
  have a1:=h.anti x.1 y.1;have z1:=h.zero x.1 y.1;have z2:=h.zero y.1 x.1
  by_cases e:c x.1 y.1=0
  ·rw[if_pos e,if_pos (z2.2 (z1.1 e).symm)];exact k.anti _ _
  ·rw[if_neg e,if_neg (fun e2=>e (z1.2 (z2.1 e2).symm))];exact a1
 ·unfold pairC
  intro h1 h2
  by_cases e:c x.1 y.1=0
  ·rw[if_pos e] at h1
   have ee:=(h.zero _ _).1 e;rw[ee]
   by_cases e2:c y.1 z.1=0
   ·rw[if_pos e2] at h2 ⊢;exact k.trans _ _ _ h1 h2
   ·rw[if_neg e2] at h2 ⊢;exact h2
  ·rw[if_neg e] at h1
   by_cases e2:c y.1 z.1=0
   ·rw[<- (h.zero _ _).1 e2,if_neg e];exact h1
   ·rw[if_neg e2] at h2
    have:=h.trans _ _ _ h1 h2;rw[if_neg (by omega)];exact this
end Go.Proofs.YtmkgecapkeojaaaGreat.Cmp
end
section
namespace Go.Proofs.YtmkgecapkeojaaaGreat.Stp
open PDa
open RowKit YtmkgecapkeojaaaGreatW.PrintWords YtmkgecapkeojaaaGreatW.PrintLast YtmkgecapkeojaaaGreatW.PrintMore
theorem ix_mem_take {α:Type} (l:List α) (k:Nat) (h:k<l.length) (x:α):x ∈ l.take (k+1) ↔ x ∈ l.take k\/x=l[k]:=by
 rw[List.take_add_one,List.getElem?_eq_getElem h,List.mem_append];simp only[Option.toList_some,List.mem_singleton]
theorem ix_jump (p:S85->Bool) (fn:Nat) (A0:Option Addr) (c0:Nat) (l:List S85) (w:World)
  (hp:∀ (x:S85) (w1:World),x ∈ l->Below w.heap.size w w1->Calls Tryz.prog fn #[.agg #[.int .i64 x.f0,.int .i64 x.f1]] w1 fun e w'=>e = .returned (.bool (p x))/\Below w1.heap.size w1 w')
  (hfn:∀ args w,(callFunc fn args).run Tryz.prog w = .ok (.enter fn args) w) (hr0:Kd.C k85 w A0 l.length l) (hl:l.length<=17592186044416) :
  Calls Tryz.prog 168 #[.slice A0 l.length c0,.func (Fn.func fn) #[] #[]] w fun e w'=>(∃ r:Int,e = .returned (.int .i64 r)/\decide (0<=r)=l.any p)/\Below w.heap.size w w':=by
 have HR:=Aside0.mk hr0;have HP:=Hd hp;clear hr0 hp;go_enter Tryz.func168,Tryz.ntmps168;go_wp2
 go_loopw [8] (fun v8 wr=>∃ k:Nat,k<=l.length/\v8 = .int .i64 (k:Int)/\Aside0 (∀ x ∈ l.take k,p x=false)/\Aside0 (Below w.heap.size w wr)) (fun v8 wr=>l.length - (intOf v8).toNat)
 case atStart=>exact⟨0,by omega,rfl,⟨by simp⟩,⟨Below.refl _ _⟩⟩
 case round =>
  obtain⟨k,hk,rfl,HN,HB⟩:=hrel
  by_cases c:k<l.length
  ·obtain⟨X,hX⟩:∃ X,l[k]=X:=⟨_,rfl⟩
   obtain⟨ad,e1,hx0,hx1⟩:=at_T85 (Kd.C_below HR.out HB.out) (k:Int) zq4 zq4;have hrd:rd_T85 l (k:Int)=X:=by
    unfold rd_T85;rw[Int.toNat_natCast,List.getD_eq_getElem?_getD,List.getElem?_eq_getElem c];exact hX
   rw[Int.toNat_natCast,hrd] at hx0 hx1;clear hrd;cases e1;have P:=Hd (fun w1 hb=>HP.out X w1 (by rw[<- hX];exact List.getElem_mem c) hb);have HX:=Hd hX;clear hX;cases hpx:p X
   ·have P2:=Hd (fun w1 hb=>by have:=P.out w1 hb;rw[hpx] at this;exact this)
    have HPX:=Hd hpx;clear P hpx
    go_wp2_with ((with_reducible refine (P2.out _ HB.out).mono ?_);rintro e w' ⟨rfl,hb⟩)
    go_roundw
    case rel =>
     refine⟨k+1,by omega,by go_num,⟨fun x hx=>?_⟩,⟨HB.out.trans (hb.mono HB.out.size)⟩⟩;have hx':=(ix_mem_take l k c x).1 hx;cases hx' with
     | inl h=>exact HN.out x h
     | inr h=>rw[h,HX];exact HPX
    case measure=>simp[intOf];omega
   ·have P2:=Hd (fun w1 hb=>by have:=P.out w1 hb;rw[hpx] at this;exact this)
    have hany:l.any p=true:=by
     rw[List.any_eq_true];exact⟨X,by rw[<- HX.out];exact List.getElem_mem c,hpx⟩
    have HANY:=Hd hany;clear P hpx hany
    go_wp2_with ((with_reducible refine (P2.out _ HB.out).mono ?_);rintro e w' ⟨rfl,hb⟩)
    go_ret;exact⟨⟨k,rfl,by rw[HANY.out];simp⟩,HB.out.trans (hb.mono HB.out.size)⟩
  ·obtain rfl:k=l.length:=by omega
   have hany:l.any p=false:=by
    rw[List.any_eq_false];intro x hx;have:=HN.out x (by rw[List.take_length];exact hx);simp[this]
   have HANY:=Hd hany;clear hany;go_wp2;go_ret;exact⟨⟨-1,rfl,by rw[HANY.out];rfl⟩,HB.out⟩
theorem has_jump (p:S85->Bool) (fn:Nat) (A0:Option Addr) (c0:Nat) (l:List S85) (w:World)
  (hp:∀ (x:S85) (w1:World),x ∈ l->Below w.heap.size w w1->Calls Tryz.prog fn #[.agg #[.int .i64 x.f0,.int .i64 x.f1]] w1 fun e w'=>e = .returned (.bool (p x))/\Below w1.heap.size w1 w')
  (hfn:∀ args w,(callFunc fn args).run Tryz.prog w = .ok (.enter fn args) w) (hr0:Kd.C k85 w A0 l.length l) (hl:l.length<=17592186044416) :
  Calls Tryz.prog 149 #[.slice A0 l.length c0,.func (Fn.func fn) #[] #[]] w fun e w'=>e = .returned (.bool (l.any p))/\Below w.heap.size w w':=by
 have C:=Hd (ix_jump p fn A0 c0 l w hp hfn hr0 hl);obtain⟨b,hb⟩:∃ b,l.any p=b:=⟨_,rfl⟩
 rw[hb] at C ⊢;clear hp hfn hr0 hl hb;go_enter Tryz.func149,Tryz.ntmps149
 go_wp2_with (go_at_call 168;((with_reducible refine C.out.mono ?_);rintro e w' ⟨⟨r,rfl,hr⟩,hb⟩;have HRR:=Hd hr;clear hr))
 go_ret;exact⟨by rw[<- HRR.out];rfl,hb⟩
def fairB (n:Int):Bool:=decide (n<=1048576) && decide (-1048576<=n)
theorem fair_f (n:Int):step_fair.f n=some (fairB n):=by
 unfold step_fair.f fairB
 by_cases h:n<=1048576
 ·simp[h]
 ·simp[h]
theorem norm1_calls (x:S85) (w:World):Calls Tryz.prog 150 #[.agg #[.int .i64 x.f0,.int .i64 x.f1]] w fun e w'=>e = .returned (.bool (!fairB x.f1))/\Below w.heap.size w w':=by
 have hu:=Tryz.underlying85;have HB:=Hd (below_alloc (Below.refl _ w) (.cells #[.int .i64 x.f0,.int .i64 x.f1] 85 (0,0)));have C:=Hd (fun w1=>step_fair.calls x.f1 _ w1 (fair_f x.f1));generalize fairB x.f1=b at *;go_enter Tryz.func150,Tryz.ntmps150
 go_wp2_with (go_at_call 95;((with_reducible refine (C.out _).mono ?_);rintro e w' ⟨rfl,hb⟩))
 go_ret;exact⟨rfl,HB.out.trans (hb.below.mono HB.out.size)⟩
def timeB (n:Int):Bool:=decide (n < -1) || decide (n > 1125899906842624)
theorem norm2_calls (x:S85) (w:World):Calls Tryz.prog 151 #[.agg #[.int .i64 x.f0,.int .i64 x.f1]] w fun e w'=>e = .returned (.bool (timeB x.f0))/\Below w.heap.size w w':=by
 have hu:=Tryz.underlying85;have HB:=Hd (below_alloc (Below.refl _ w) (.cells #[.int .i64 x.f0,.int .i64 x.f1] 85 (0,0)))
 by_cases h:x.f0 < -1
 ·have e:timeB x.f0=true:=by unfold timeB;simp[h]
  have b1:decide (x.f0 < -1)=true:=DET h;rw[e];clear h e;go_enter Tryz.func151,Tryz.ntmps151;go_wp2;go_ret;exact⟨rfl,HB.out⟩
 ·have b1:decide (x.f0 < -1)=false:=DEF h
  obtain⟨b,hb⟩:∃ b,decide (x.f0 > 1125899906842624)=b:=⟨_,rfl⟩
  have e:timeB x.f0=b:=by unfold timeB;rw[b1,Bool.false_or];exact hb
  rw[e];clear h e;cases b
  all_goals
   go_enter Tryz.func151,Tryz.ntmps151;go_wp2;go_ret;exact⟨rfl,HB.out⟩
theorem compare_f (a b:Int):cmp_Compare_int.f a b=some (Cmp.icmp a b):=by
 unfold cmp_Compare_int.f Cmp.icmp;simp only[cmp_isNaN_int.f,Option.bind_some]
 repeat' split
 all_goals first | rfl | (exfalso;simp_all;done) | (simp_all;omega) | omega
theorem norm3_calls (x y:S85) (w:World):Calls Tryz.prog 153 #[.agg #[.int .i64 x.f0,.int .i64 x.f1],.agg #[.int .i64 y.f0,.int .i64 y.f1]] w fun e w'=>e = .returned (.int .i64 (Cmp.icmp x.f0 y.f0))/\Below w.heap.size w w':=by
 have hu:=Tryz.underlying85;have HB:=Hd (below_alloc (below_alloc (Below.refl _ w) (.cells #[.int .i64 x.f0,.int .i64 x.f1] 85 (0,0))) (.cells #[.int .i64 y.f0,.int .i64 y.f1] 85 (0,0)));have C:=Hd (fun w1=>cmp_Compare_int.calls x.f0 y.f0 _ w1 (compare_f x.f0 y.f0));generalize Cmp.icmp x.f0 y.f0=r at *;go_enter Tryz.func153,Tryz.ntmps153
 go_wp2_with (go_at_call 106;((with_reducible refine (C.out _).mono ?_);rintro e w' ⟨rfl,hb⟩))
 go_ret;exact⟨rfl,HB.out.trans (hb.below.mono HB.out.size)⟩
def clone_Jump.f (l0:List S85):Option (List S85):=if l0.length<4398046511104 then some l0 else none
theorem clone_Jump.calls (A0:Option Addr) (c0:Nat) (l0:List S85) (r:List S85) (w:World) (hr0:Kd.C k85 w A0 l0.length l0) (hc0:l0.length<=c0) (h:clone_Jump.f l0=some r) :
  Calls Tryz.prog 114 #[.slice A0 l0.length c0] w fun e w'=>∃ v0_:Value,e = .returned v0_/\Kd.R k85 85 w' w.heap.size (fun _=>True) v0_ r/\Below w.heap.size w w':=by
 have hlen:l0.length<4398046511104:=by
  unfold clone_Jump.f at h
  by_cases hl:l0.length<4398046511104
  ·exact hl
  ·rw[if_neg hl] at h;simp at h
 obtain rfl:l0=r:=by
  unfold clone_Jump.f at h;rw[if_pos hlen] at h;exact OSI h
 clear h;have LM:=Aside0.mk hlen;clear hlen;have HR0:=Aside0.mk hr0;have HC0:=Aside0.mk hc0;clear hr0 hc0;have HB:=Aside0.mk (Below.refl w.heap.size w);cases A0 with
 | none =>
  have hn:∀ w:World,(binOp .eql 43 (.slice none l0.length c0) (.slice none 0 0)).run Tryz.prog w = .ok (.bool true) w:=fun w=>Lib.run_eql_slice_nil w _ _ none l0.length c0 0 0 Tryz.underlying43
  have h0:l0=[]:=by
   have:=HR0.out.2.2
   rcases l0 with _ | ⟨x,xs⟩
   ·rfl
   ·obtain⟨ad,h',_⟩:=this zq30
    cases h'
  replace h0:=Hd h0;go_enter Tryz.func114,Tryz.ntmps114;go_wp2;go_ret;exact⟨_,rfl,by rw[h0.out];exact Kd.R_nil _ _ _ _ _,Below.refl _ _⟩
 | some ad =>
  have hn:∀ w:World,(binOp .eql 43 (.slice (some ad) l0.length c0) (.slice none 0 0)).run Tryz.prog w = .ok (.bool false) w:=fun w=>Lib.run_eql_slice_nil w _ _ (some ad) l0.length c0 0 0 Tryz.underlying43
  go_enter Tryz.func114,Tryz.ntmps114
  go_wp2_with (first
   | ((with_reducible refine gate_dst (N:=5) rfl ?_);refine Kd.R_lit k85 _ 85 ?hg (N:=5) ?hd (xs:=([]:List S85)) (inner:=[]) (ok:=fun _=>True) (okp:=fun _=>True) ?hr ?hp (fun _ hk=>hk) trivial (Below.refl _ _) (Nat.le_refl _) zq30 ?_;(case hd=>rfl);(case hg=>rfl);(case hr=>first | (go_simp;done) | (go_simp;rfl));(case hp=>exact (Reps.none _ _));intro v159 w23 ho24 hb hg_ hnew_;clear hg_ hnew_;have HO:=Aside0.mk (Kd.R_lower ho24 (below_size HB.out));have HR1:=Aside0.mk (Kd.C_below HR0.out hb);have HB1:=Aside0.mk (below_step HB.out hb);clear hb ho24)
   | ((with_reducible refine gate_dst (N:=7) rfl ?_);refine Kd.R_append_rows k85 (w0:=w) w.heap.size rfl (.tmp 5) (.tmp 6) 43 85 (.agg #[(.int .i64 0),(.int .i64 0)]) 16 rfl Tryz.underlying43 info85 rfl zq34 zq4 v159 [] l0 _ _ _ (fun _=>True) (fun _=>False) rfl rfl ?aO ?aR (fun _ _ h=>h) (fun _ h=>h.elim) (fun _ _=>trivial) ?aB ?aS ?aL ?_;(case aO=>exact HO.out);(case aR=>exact HR1.out);(case aB=>exact HB1.out);(case aS=>exact below_size HB1.out);(case aL=>have:=LM.out;simp only[List.length_nil,Nat.zero_add];omega);intro v167 w26 ho hb hg hat;have HO2:=Aside0.mk ho;have HB2:=Aside0.mk hb;clear ho hb hg hat))
  go_ret;exact⟨_,rfl,HO2.out,HB2.out⟩
end Go.Proofs.YtmkgecapkeojaaaGreat.Stp
end
section
namespace Go.Proofs.YtmkgecapkeojaaaGreat.SortJ
open Go RowKit YtmkgecapkeojaaaGreatW.PrintWords YtmkgecapkeojaaaGreatW.PrintLast YtmkgecapkeojaaaGreatW.PrintMore
open Run SortP SortM PDa
structure El where
 at':Int
 net:Int
def enc (x:El):List Value:=[.int .i64 x.at',.int .i64 x.net]
theorem enc_len (x:El):(enc x).length=2:=rfl
theorem swapRange_calls (blk cap n:Nat) (g:Nat->El) (fn:Nat) (lb:Array Value) (a b q:Nat) (w:World) (hH:Holds enc 2 w blk 85 n g) (hab:a+q<=b) (hb:b+q<=n) (hn:n<=17592186044416) :
  Calls Tryz.prog 194 #[.slice (some ⟨blk,0,none⟩) n cap,.int .i64 (a:Int),.int .i64 (b:Int),.int .i64 (q:Int),.func (.func fn) #[] lb] w fun e w' =>
   e = .returned (.tuple #[])/\Holds enc 2 w' blk 85 n (swr g a b q)/\Step (OnlyB blk) (OnlyB blk) w w'/\(row (swr g a b q) n).Perm (row g n):=by
 have HH:=Hd hH;have HAB:=Hd hab;clear hH;go_enter Tryz.func194,Tryz.ntmps194;go_wp2
 go_loopw [10] (fun v10 wr=>∃ i:Nat,i<=q/\v10 = .int .i64 (i:Int)/\Aside0 (Holds enc 2 wr blk 85 n (swr g a b i))/\Aside0 (Step (OnlyB blk) (OnlyB blk) w wr)/\Aside0 ((row (swr g a b i) n).Perm (row g n))) (fun v10 wr=>q - (intOf v10).toNat)
 case atStart=>exact⟨0,by omega,rfl,⟨by rw[swr_zero];exact HH.out⟩,⟨Step.refl _ _⟩,⟨by rw[swr_zero]⟩⟩
 case round =>
  obtain⟨i,hi,rfl,HO,HS,HP⟩:=hrel
  by_cases ci:i<q
  ·obtain⟨p,hp⟩:∃ p,a+i=p:=⟨_,rfl⟩
   obtain⟨r,hr⟩:∃ r,b+i=r:=⟨_,rfl⟩
   obtain⟨X,hX⟩:∃ X,swr g a b i p=X:=⟨_,rfl⟩
   obtain⟨Y,hY⟩:∃ Y,swr g a b i r=Y:=⟨_,rfl⟩
   have hpn:p<n:=by omega
   have hrn:r<n:=by omega
   have hx:=fun j u h=>HO.out.cell (i:=p) (j:=j) (u:=u) hpn h
   have hy:=fun j u h=>HO.out.cell (i:=r) (j:=j) (u:=u) hrn h
   rw[hX] at hx;rw[hY] at hy;have x0:=hx 0 _ rfl;rw[Nat.add_zero] at x0;have x1:=hx 1 _ rfl;have y0:=hy 0 _ rfl;rw[Nat.add_zero] at y0;have y1:=hy 1 _ rfl;have e1:IntKind.i64.wrap ((a:Int)+(i:Int))=(p:Int):=by rw[IntKind.wrap_i64];omega
   have e2:IntKind.i64.wrap ((b:Int)+(i:Int))=(r:Int):=by rw[IntKind.wrap_i64];omega
   have l1:(p:Int)<(n:Int):=by omega
   have l2:(r:Int)<(n:Int):=by omega
   have HX:=Hd hX;have HY:=Hd hY;have HPE:=Hd hp;have HRE:=Hd hr;have HPN:=Hd hpn;have HRN:=Hd hrn;have hu:=Tryz.underlying85;have fz:=HO.out.frozen;have z1:(wr.setCell ⟨blk,p*2,none⟩ (.int .i64 Y.at')).cell? ⟨blk,p*2+1,none⟩=some (.int .i64 X.net):=(far_cell x1 zq4 (.int .i64 Y.at'))
   have t0:((wr.setCell ⟨blk,p*2,none⟩ (.int .i64 Y.at')).setCell ⟨blk,p*2+1,none⟩ (.int .i64 Y.net)).cell? ⟨blk,r*2,none⟩=some (.int .i64 Y.at'):=(far_cell (far_cell y0 zq4 (.int .i64 Y.at')) zq4 (.int .i64 Y.net))
   have t1:(((wr.setCell ⟨blk,p*2,none⟩ (.int .i64 Y.at')).setCell ⟨blk,p*2+1,none⟩ (.int .i64 Y.net)).setCell ⟨blk,r*2,none⟩ (.int .i64 X.at')).cell? ⟨blk,r*2+1,none⟩=some (.int .i64 Y.net):=(far_cell (far_cell (far_cell y1 zq4 (.int .i64 Y.at')) zq4 (.int .i64 Y.net)) zq4 (.int .i64 X.at'))
   clear hx hy hX hY hp hr hpn hrn;go_wp2
   go_region
   have HO2:=Hd ((HO.out.exch2 enc_len HPN.out HRN.out (show enc _=_ by rw[HX.out];rfl) (show enc _=_ by rw[HY.out];rfl)).drew);have HS2:=Hd (HS.out.trans (step_drew _ (step_exch2 wr blk (p*2) (p*2+1) (r*2) (r*2+1) (.int .i64 Y.at') (.int .i64 Y.net) (.int .i64 X.at') (.int .i64 X.net))));have HG:=Hd (show exch (swr g a b i) p r=swr g a b (i+1) by rw[<- HPE.out, <- HRE.out];exact swr_step g a b i (by have:=HAB.out;omega));have HP2:=Hd ((exch_perm (swr g a b i) n p r HPN.out HRN.out).trans HP.out);rw[HG.out] at HO2 HP2;go_wp2;go_roundw
   case rel=>exact⟨i+1,by omega,by go_num,⟨HO2.out⟩,⟨HS2.out⟩,⟨HP2.out⟩⟩
   case measure=>simp[intOf];omega
  ·obtain rfl:i=q:=by omega
   go_wp2
   go_end0
   exact⟨rfl,HO.out,HS.out,HP.out⟩
theorem rotate_calls (blk cap n:Nat) (g:Nat->El) (fn:Nat) (lb:Array Value) (a m b:Nat) (w:World) (hH:Holds enc 2 w blk 85 n g) (ham:a<m) (hmb:m<b) (hb:b<=n) (hn:n<=17592186044416) :
  Calls Tryz.prog 193 #[.slice (some ⟨blk,0,none⟩) n cap,.int .i64 (a:Int),.int .i64 (m:Int),.int .i64 (b:Int),.func (.func fn) #[] lb] w fun e w' =>
   e = .returned (.tuple #[]) /\ ∃ g',Holds enc 2 w' blk 85 n g'/\Turned g g' a m b/\Step (OnlyB blk) (OnlyB blk) w w'/\(row g' n).Perm (row g n):=by
 have HH:=Hd hH;clear hH;have e0:(m:Int) - (a:Int)=((m - a:Nat):Int):=by omega
 have e1:(b:Int) - (m:Int)=((b - m:Nat):Int):=by omega
 go_enter Tryz.func193,Tryz.ntmps193;go_wp2
 go_loopw [10,11] (fun v10 v11 wr=>∃ (i j:Nat) (g':Nat->El),0<i/\0<j/\i<=m - a/\j<=b - m/\v10 = .int .i64 (i:Int)/\v11 = .int .i64 (j:Int)/\Aside0 (Turn g g' a m b i j)/\Aside0 (Holds enc 2 wr blk 85 n g')/\Aside0 (Step (OnlyB blk) (OnlyB blk) w wr)/\Aside0 ((row g' n).Perm (row g n))) (fun v10 v11 wr=>(intOf v10).toNat+(intOf v11).toNat)
 case atStart=>exact⟨m - a,b - m,g,by omega,by omega,by omega,by omega,rfl,rfl,⟨turn_start g a m b zq4 zq4⟩,⟨HH.out⟩,⟨Step.refl _ _⟩,⟨List.Perm.refl _⟩⟩
 case round =>
  obtain⟨i,j,g',hi0,hj0,hi,hj,rfl,rfl,HT,HO,HS,HP⟩:=hrel;obtain⟨p,hp⟩:∃ p,m - i=p:=⟨_,rfl⟩
  have e2:(m:Int) - (i:Int)=(p:Int):=by omega
  clear e0 e1
  rcases Nat.lt_trichotomy i j with c | c | c
  ·have b1:((i:Int) != (j:Int))=true:=by simp;omega
   have b2:decide ((i:Int) > (j:Int))=false:=DEF zq4;obtain⟨r,hr⟩:∃ r,m+j - i=r:=⟨_,rfl⟩
   have e3:(m:Int)+(j:Int) - (i:Int)=(r:Int):=by omega
   go_wp2_with (go_at_call 194;(with_reducible refine (swapRange_calls blk cap n g' fn lb p r i _ HO.out ?HOa ?HOb ?HOc).mono ?_);(case HOa=>omega);(case HOb=>omega);(case HOc=>omega);rintro e w' ⟨rfl,h1,h2,h3⟩;have HO1:=Hd h1;have HO2:=Hd h2;have HO3:=Hd h3;clear h1 h2 h3)
   go_roundw
   case rel =>
    refine⟨i,j - i,_,by omega,by omega,by omega,by omega,rfl,by rw[show ((j - i:Nat):Int)=(j:Int) - (i:Int) by omega],⟨?_⟩,⟨HO1.out⟩,⟨HS.out.trans HO2.out⟩,⟨HO3.out.trans HP.out⟩⟩;rw[<- hp, <- hr];exact turn_less g g' a m b i j HT.out c hi0
   case measure=>simp[intOf];omega
  ·subst c
   have b1:((i:Int) != (i:Int))=false:=by simp
   go_wp2_with (go_at_call 194;(with_reducible refine (swapRange_calls blk cap n g' fn lb p m i _ HO.out ?HQa ?HQb ?HQc).mono ?_);(case HQa=>omega);(case HQb=>omega);(case HQc=>omega);rintro e w' ⟨rfl,h1,h2,h3⟩;have HO1:=Hd h1;have HO2:=Hd h2;have HO3:=Hd h3;clear h1 h2 h3)
   go_end0
   exact⟨rfl,_,HO1.out,by rw[<- hp];exact turn_end g g' a m b i HT.out,HS.out.trans HO2.out,HO3.out.trans HP.out⟩
  ·have b1:((i:Int) != (j:Int))=true:=by simp;omega
   have b2:decide ((i:Int) > (j:Int))=true:=DET zq4
   go_wp2_with (go_at_call 194;(with_reducible refine (swapRange_calls blk cap n g' fn lb p m j _ HO.out ?HRa ?HRb ?HRc).mono ?_);(case HRa=>omega);(case HRb=>omega);(case HRc=>omega);rintro e w' ⟨rfl,h1,h2,h3⟩;have HO1:=Hd h1;have HO2:=Hd h2;have HO3:=Hd h3;clear h1 h2 h3)
   go_roundw
   case rel =>
    refine⟨i - j,j,_,by omega,by omega,by omega,by omega,by rw[show ((i - j:Nat):Int)=(i:Int) - (j:Int) by omega],rfl,⟨?_⟩,⟨HO1.out⟩,⟨HS.out.trans HO2.out⟩,⟨HO3.out.trans HP.out⟩⟩;rw[<- hp];exact turn_more g g' a m b i j HT.out c hj0
   case measure=>simp[intOf];omega
theorem insertion_calls (cf:El->El->Int) (o:Ord cf) (OK:El->Prop) (blk cap n:Nat) (g:Nat->El) (fn:Nat) (a b:Nat) (w:World) (hH:Holds enc 2 w blk 85 n g) (hok:∀ i,i<n->OK (g i)) (hab:a<=b) (hb:b<=n) (hn:n<=17592186044416)
  (hfn:∀ args w,(callFunc fn args).run Tryz.prog w = .ok (.enter fn args) w) (hcmp:∀ (x y:El) (w1:World),OK x->OK y->Step (OnlyB blk) (OnlyB blk) w w1->Calls Tryz.prog fn #[.agg #[.int .i64 x.at',.int .i64 x.net],.agg #[.int .i64 y.at',.int .i64 y.net]] w1 fun e w'=>e = .returned (.int .i64 (cf x y))/\Below w1.heap.size w1 w') :
  Calls Tryz.prog 188 #[.slice (some ⟨blk,0,none⟩) n cap,.int .i64 (a:Int),.int .i64 (b:Int),.func (.func fn) #[] #[]] w fun e w' =>
   e = .returned (.tuple #[]) /\ ∃ g',Holds enc 2 w' blk 85 n g'/\Up cf g' a b/\SameOn g g' a b/\Step (OnlyB blk) (OnlyB blk) w w'/\(row g' n).Perm (row g n):=by
 have HH:=Hd hH;have HOK:=Hd hok;have HC:=Hd hcmp;clear hH hok hcmp;go_enter Tryz.func188,Tryz.ntmps188;go_wp2
 go_loopw [8] (fun v8 wr=>∃ (i:Nat) (g':Nat->El),a<i/\i<=b+1/\v8 = .int .i64 (i:Int)/\Aside0 (Up cf g' a i\/b<=a)/\Aside0 (SameOn g g' a b)/\Aside0 (Holds enc 2 wr blk 85 n g')/\Aside0 (Step (OnlyB blk) (OnlyB blk) w wr)/\Aside0 ((row g' n).Perm (row g n))) (fun v8 wr=>b+1 - (intOf v8).toNat)
 case atStart=>exact⟨a+1,g,by omega,by omega,by go_num,⟨.inl (Up.one cf g a (a+1) zq4)⟩,⟨SameOn.refl g a b⟩,⟨HH.out⟩,⟨Step.refl _ _⟩,⟨List.Perm.refl _⟩⟩
 case round =>
  obtain⟨i,g',hai,hib,rfl,HU,HSM,HO,HS,HP⟩:=hrel
  by_cases ci:i<b
  ·have HU2:=Hd (show Up cf g' a i from HU.out.resolve_right zq4)
   go_wp2
   go_loopw [9] (fun v9 wr2=>∃ (j:Nat) (g2:Nat->El),a<=j/\j<=i/\v9 = .int .i64 (j:Int)/\Aside0 (Ins cf g2 a i j)/\Aside0 (SameOn g g2 a b)/\Aside0 (Holds enc 2 wr2 blk 85 n g2)/\Aside0 (Step (OnlyB blk) (OnlyB blk) w wr2)/\Aside0 ((row g2 n).Perm (row g n))) (fun v9 wr2=>(intOf v9).toNat)
   case atStart=>exact⟨i,g',by omega,by omega,rfl,⟨ins_start HU2.out⟩,⟨HSM.out⟩,⟨HO.out⟩,⟨HS.out⟩,⟨HP.out⟩⟩
   case round =>
    obtain⟨j,g2,haj,hji,rfl,HI,HSM2,HO2,HS2,HP2⟩:=hrel
    by_cases cj:a<j
    ·obtain⟨r,hr⟩:∃ r,j=r+1:=⟨j - 1,by omega⟩
     have hpn:j<n:=by omega
     have hrn:r<n:=by omega
     obtain⟨X,hX⟩:∃ X,g2 j=X:=⟨_,rfl⟩
     obtain⟨Y,hY⟩:∃ Y,g2 r=Y:=⟨_,rfl⟩
     have hx:=fun j' u h=>HO2.out.cell (i:=j) (j:=j') (u:=u) hpn h
     have hy:=fun j' u h=>HO2.out.cell (i:=r) (j:=j') (u:=u) hrn h
     rw[hX] at hx;rw[hY] at hy;have x0:=hx 0 _ rfl;rw[Nat.add_zero] at x0;have x1:=hx 1 _ rfl;have y0:=hy 0 _ rfl;rw[Nat.add_zero] at y0;have y1:=hy 1 _ rfl;have okk:∀ q,q<n->OK (g2 q):=fun q hq=>by
      by_cases c:a<=q/\q<b
      ·obtain⟨z,z1,z2,e⟩:=HSM2.out.2 q c.1 c.2
       rw[e];exact HOK.out z zq4
      ·rw[HSM2.out.1 q zq4];exact HOK.out q hq
     have CM:=Hd (fun (p:BelowOf wr)=>HC.out X Y p.W (hX ▸ okk j hpn) (hY ▸ okk r hrn) (HS2.out.trans (Step.of_below p.h)));have e1:IntKind.i64.wrap ((j:Int) - 1)=(r:Int):=by rw[IntKind.wrap_i64];omega
     have e2:(j:Int) - 1=(r:Int):=by omega
     have l1:(j:Int)<(n:Int):=by omega
     have l2:(r:Int)<(n:Int):=by omega
     have bg:decide ((j:Int) > (a:Int))=true:=DET zq4;have bg':(a:Int)<(j:Int):=by omega
     have hu:=Tryz.underlying85;obtain⟨cv,hcv⟩:∃ cv,cf X Y=cv:=⟨_,rfl⟩
     rw[hcv] at CM;have x0':=fun p=>BelowOf.cell x0 p
     have x1':=fun p=>BelowOf.cell x1 p
     have y0':=fun p=>BelowOf.cell y0 p
     have y1':=fun p=>BelowOf.cell y1 p
     have HX:=Hd hX;have HY:=Hd hY;have HCV:=Hd hcv;have HR:=Hd hr;have HPN:=Hd hpn;have HRN:=Hd hrn
     by_cases hc:cv<0
     ·have bc:decide (cv<0)=true:=DET hc
      clear hx hy hX hY hcv hr hpn hrn okk;go_wp2;refine wp_region_quiet_below zq17 zq17 ?_
      repeat (go_big_quiet_step (exact below_calls (CM.out _)))
      refine wpQuiet_nil ?_;intro wq hw1;have hwq:Below wr.heap.size wr wq:=by obtain⟨p,rfl⟩:=hw1;exact p.h
      clear hw1;have HWQ:=Hd hwq;have x0:=pw_cell_below HWQ.out x0;have x1:=pw_cell_below HWQ.out x1;have y0:=pw_cell_below HWQ.out y0;have y1:=pw_cell_below HWQ.out y1;have HO3:=Hd (HO2.out.below hwq);have fz:=HO3.out.frozen;have z1:(wq.setCell ⟨blk,j*2,none⟩ (.int .i64 Y.at')).cell? ⟨blk,j*2+1,none⟩=some (.int .i64 X.net):=(far_cell x1 zq46 (.int .i64 Y.at'))
      have t0:((wq.setCell ⟨blk,j*2,none⟩ (.int .i64 Y.at')).setCell ⟨blk,j*2+1,none⟩ (.int .i64 Y.net)).cell? ⟨blk,r*2,none⟩=some (.int .i64 Y.at'):=(far_cell (far_cell y0 zq46 (.int .i64 Y.at')) zq46 (.int .i64 Y.net))
      have t1:(((wq.setCell ⟨blk,j*2,none⟩ (.int .i64 Y.at')).setCell ⟨blk,j*2+1,none⟩ (.int .i64 Y.net)).setCell ⟨blk,r*2,none⟩ (.int .i64 X.at')).cell? ⟨blk,r*2+1,none⟩=some (.int .i64 Y.net):=(far_cell (far_cell (far_cell y1 zq46 (.int .i64 Y.at')) zq46 (.int .i64 Y.net)) zq46 (.int .i64 X.at'))
      clear hwq x0' x1' y0' y1';go_wp2
      go_region
      have HO4:=Hd ((HO3.out.exch2 enc_len HPN.out HRN.out (show enc _=_ by rw[HX.out];rfl) (show enc _=_ by rw[HY.out];rfl)).drew);have HS4:=Hd (HS2.out.trans ((Step.of_below HWQ.out).trans (step_drew _ (step_exch2 wq blk (j*2) (j*2+1) (r*2) (r*2+1) (.int .i64 Y.at') (.int .i64 Y.net) (.int .i64 X.at') (.int .i64 X.net)))));have HP4:=Hd ((exch_perm g2 n j r HPN.out HRN.out).trans HP2.out);have HI4:=Hd (show Ins cf (exch g2 j r) a i r by
       have e:=HR.out;have hc2:cf (g2 j) (g2 r)<0:=by rw[HX.out,HY.out,HCV.out];exact ODT bc
       clear bc;subst e;exact ins_step o HI.out zq4 hji hc2)
      have HSM4:=Hd (show SameOn g (exch g2 j r) a b from HSM2.out.trans (SameOn.exch g2 zq4 zq4 zq46 zq46));go_wp2;go_roundw
      case rel=>exact⟨r,exch g2 j r,by have:=HR.out;omega,by have:=HR.out;omega,rfl,⟨HI4.out⟩,⟨HSM4.out⟩,⟨HO4.out⟩,⟨HS4.out⟩,⟨HP4.out⟩⟩
      case measure=>simp[intOf];have:=HR.out;omega
     ·have bc:decide (cv<0)=false:=DEF hc
      clear hx hy hX hY hcv hr hpn hrn okk;go_wp2;refine wp_region_quiet_below zq17 zq17 ?_
      repeat (go_big_quiet_step (exact below_calls (CM.out _)))
      refine wpQuiet_nil ?_;intro wq hw1;have hwq:Below wr.heap.size wr wq:=by obtain⟨p,rfl⟩:=hw1;exact p.h
      clear hw1;have HWQ:=Hd hwq;clear hwq;have HU3:=Hd (show Up cf g2 a (i+1) from ins_done o HI.out hji (.inr ⟨r,HR.out,by rw[HX.out,HY.out,HCV.out];exact of_decide_eq_false bc⟩));go_wp2;go_roundw
      case rel=>exact⟨i+1,g2,by omega,by omega,by go_num,⟨.inl HU3.out⟩,⟨HSM2.out⟩,⟨HO2.out.below HWQ.out⟩,⟨HS2.out.trans (Step.of_below HWQ.out)⟩,⟨HP2.out⟩⟩
      case measure=>simp[intOf];omega
    ·have hja:j=a:=by omega
     have bg:decide ((j:Int) > (a:Int))=false:=DEF zq4;have HU3:=Hd (show Up cf g2 a (i+1) from ins_done o HI.out hji (.inl zq4));have HJA:=Hd hja;clear hja;go_wp2;refine wp_region_quiet_below zq17 zq17 ?_
     repeat (go_big_quiet_step (fail))
     refine wpQuiet_nil ?_;intro wq hw1;have hwq:Below wr.heap.size wr wq:=by obtain⟨p,rfl⟩:=hw1;exact p.h
     clear hw1;have HWQ:=Hd hwq;clear hwq;go_wp2;go_roundw
     case rel=>exact⟨i+1,g2,by omega,by omega,by go_num,⟨.inl HU3.out⟩,⟨HSM2.out⟩,⟨HO2.out.below HWQ.out⟩,⟨HS2.out.trans (Step.of_below HWQ.out)⟩,⟨HP2.out⟩⟩
     case measure=>simp[intOf];omega
  ·have HU2:=Hd (show Up cf g' a b by
    rcases HU.out with h | h
    ·exact h.sub (Nat.le_refl _) zq4
    ·exact Up.one cf g' a b zq4)
   go_wp2
   go_end0
   exact⟨rfl,g',HO.out,HU2.out,HSM.out,HS.out,HP.out⟩
end Go.Proofs.YtmkgecapkeojaaaGreat.SortJ
end
