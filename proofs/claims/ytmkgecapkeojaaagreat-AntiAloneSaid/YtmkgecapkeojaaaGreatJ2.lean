/- Texts of this claim, put together by a program: PDax0, PDax1, PDax2, PDax3, PDax4. -/
import Derived.Test.YtmkgecapkeojaaaGreatJ1
import Derived.Test.YtmkgecapkeojaaaGreatProg
import Derived.Below
import Derived.Deep.Draws
import Derived.Deep.AppendLies
import Derived.Maps.AppendAt
import Derived.OwnWalk
import Derived.Laws.BytesArg
import Derived.Laws.MakeOwn
import Derived.Laws.OwnMore
import Derived.Deep.OwnRows
import Derived.Tactics
import Derived.Lib.ConvBytes
import Derived.Laws.Slices
import Derived.WalkKit
import Derived.KernelRfl
import Derived.RowKit3
import Derived.Deep.LoopGhost
import Derived.Deep.QuietTactic
import Derived.BigQuiet
import Derived.WideLaws
import Derived.Deep.DeepCutAuto
import Derived.Deep.CutBlock
import Derived.Deep.RegionHeld3
import Derived.Laws.Rows
import Derived.Lib.AppendStr
import Derived.ArgAppend
import Derived.Laws.IdiomCopy
import Derived.OrdersHeld
import Derived.Laws.BitsLemmas
import Derived.RowKit
import Derived.Lib.Hide
import Derived.Laws.NewBlocks
import Derived.Lib.Bytealg
import Derived.Shelf.Abstract
import Derived.OneCell
import Derived.RegionTactic
import Derived.WalkSmall
import Derived.WalkSpells
import Derived.Deep.RegionWith
import Derived.Defers
import Derived.Recover
set_option linter.unusedVariables false
set_option linter.unusedSimpArgs false
set_option maxHeartbeats 8000000
set_option maxRecDepth 100000
section
namespace Go.Proofs.YtmkgecapkeojaaaGreat.PDa
open RowKit YtmkgecapkeojaaaGreatW.PrintWords YtmkgecapkeojaaaGreatW.PrintLast YtmkgecapkeojaaaGreatW.PrintMore
attribute [local go_sem] max2_int min2_int max_two min_two max_three min_three max_four min_four
def errW:Option Int->Value
 | none=>.nilIface
 | some c=>.iface 0 (.int .i64 c)
theorem errW_none:errW none = .nilIface:=rfl
theorem errW_some (c:Int):errW (some c) = .iface 0 (.int .i64 c):=rfl
theorem info3:(Tryz.prog.info? 3).map (fun i=>(i.zero,i.size,i.bytes))=some (some (.int .i64 0),1,8):=by kernel_rfl
theorem info24:(Tryz.prog.info? 24).map (fun i=>(i.zero,i.size,i.bytes))=some (some (.slice none 0 0),1,24):=by kernel_rfl
theorem info39:(Tryz.prog.info? 39).map (fun i=>(i.zero,i.size,i.bytes))=some (some (.slice none 0 0),1,24):=by kernel_rfl
theorem info41:(Tryz.prog.info? 41).map (fun i=>(i.zero,i.size,i.bytes))=some (some (.agg #[(.slice none 0 0),(.int .i64 0),(.int .i64 0)]),3,40):=by kernel_rfl
theorem info65:(Tryz.prog.info? 65).map (fun i=>(i.zero,i.size,i.bytes))=some (some (.agg #[(.int .i64 0),(.int .i64 0),(.string ⟨#[]⟩)]),3,32):=by kernel_rfl
theorem info68:(Tryz.prog.info? 68).map (fun i=>(i.zero,i.size,i.bytes))=some (some (.agg #[(.int .i64 0),(.int .i64 0),(.string ⟨#[]⟩)]),3,32):=by kernel_rfl
theorem info85:(Tryz.prog.info? 85).map (fun i=>(i.zero,i.size,i.bytes))=some (some (.agg #[(.int .i64 0),(.int .i64 0)]),2,16):=by kernel_rfl
structure S65 where
 f0:Int
 f1:Int
 f2:ByteArray
def z65:S65:=⟨(0:Int),(0:Int),(⟨#[]⟩:ByteArray)⟩
def k65:Kd S65:=Kd.iso (Kd.pair (Kd.int .i64) (Kd.pair (Kd.int .i64) Kd.string)) (fun x:S65=>(x.f0,x.f1,x.f2))
theorem k65_heap:Kd.Heap k65:=Kd.heap_iso _ (Kd.heap_pair (Kd.heap_int .i64) (Kd.heap_pair (Kd.heap_int .i64) Kd.heap_string))
theorem k65_open {w:World} {x:S65} {cs:List Value} (h:k65.K w x cs):cs=[.int .i64 x.f0,.int .i64 x.f1,.string x.f2]:=by
 obtain⟨_,_,rfl,rfl,⟨_,_,rfl,rfl,rfl⟩⟩:=h;exact rfl
theorem k65_mk (w:World) (x:S65)  : k65.K w x [.int .i64 x.f0,.int .i64 x.f1,.string x.f2]:=⟨[.int .i64 x.f0],[.int .i64 x.f1,.string x.f2],rfl,rfl,⟨[.int .i64 x.f1],[.string x.f2],rfl,rfl,rfl⟩⟩
theorem k65_mkM (w:World) (base:Nat) (ok:Nat->Prop) (x:S65)  : k65.M w base ok x [.int .i64 x.f0,.int .i64 x.f1,.string x.f2]:=⟨[.int .i64 x.f0],[.int .i64 x.f1,.string x.f2],rfl,rfl,⟨[.int .i64 x.f1],[.string x.f2],rfl,rfl,rfl⟩⟩
def rd_T65 (xs:List S65) (i:Int):S65:=xs.getD i.toNat z65
theorem at_T65 {w:World} {A:Option Addr} {n:Nat} {xs:List S65} (h:Kd.C k65 w A n xs) (i:Int) (h0:0<=i) (h1:i<n):∃ ad ,A=some ad/\w.cell? (ad.add (i.toNat*3))=some (.int .i64 (rd_T65 xs i).f0)/\w.cell? ⟨(ad.add (i.toNat*3)).block,(ad.add (i.toNat*3)).off+1,none⟩=some (.int .i64 (rd_T65 xs i).f1)/\w.cell? ⟨(ad.add (i.toNat*3)).block,(ad.add (i.toNat*3)).off+2,none⟩=some (.string (rd_T65 xs i).f2):=by
 obtain⟨ad,c,e,_,hK,hc0⟩:=Kd.C_get h z65 i h0 h1;have hc:∀ j u,c[j]? = some u->w.cell? (ad.add (i.toNat*3+j))=some u:=hc0;obtain rfl:=k65_open hK;exact⟨ad,e,hc 0 _ rfl,by rw[<- add_field _ _ 1 zq4];exact hc 1 _ rfl,by rw[<- add_field _ _ 2 zq4];exact hc 2 _ rfl⟩
def rd_L3 (xs:List (List S65)) (i:Int):(List S65):=xs.getD i.toNat ([]:List S65)
theorem at_L3 {w:World} {A:Option Addr} {n:Nat} {xs:List (List S65)} (h:Kd.C (Kd.slice 65 k65) w A n xs) (i:Int) (h0:0<=i) (h1:i<n):∃ ad A0 c0,A=some ad/\w.cell? (ad.add i.toNat)=some (.slice A0 (rd_L3 xs i).length c0)/\(rd_L3 xs i).length<=c0/\k65.C w A0 (rd_L3 xs i).length (rd_L3 xs i):=by
 obtain⟨ad,c,e,_,hK,hc0⟩:=Kd.C_get h ([]:List S65) i h0 h1;have hc:∀ j u,c[j]? = some u->w.cell? (ad.add (i.toNat*1+j))=some u:=hc0;obtain⟨A0,c0,rfl,l0,g0⟩:=hK;exact⟨ad,A0,c0,e,by have hq:=hc 0 _ rfl;rwa [Nat.mul_one,Nat.add_zero] at hq,l0,g0⟩
structure S41 where
 f0:(List S65)
 f1:Int
 f2:Int
def z41:S41:=⟨([]:List S65),(0:Int),(0:Int)⟩
def k41:Kd S41:=Kd.iso (Kd.pair (Kd.slice 65 k65) (Kd.pair (Kd.int .i64) (Kd.int .i64))) (fun x:S41=>(x.f0,x.f1,x.f2))
theorem k41_open {w:World} {x:S41} {cs:List Value} (h:k41.K w x cs):∃ A0 c0,cs=[.slice A0 x.f0.length c0,.int .i64 x.f1,.int .i64 x.f2]/\x.f0.length<=c0/\k65.C w A0 x.f0.length x.f0:=by
 obtain⟨_,_,rfl,⟨A0,c0,rfl,l0,g0⟩,⟨_,_,rfl,rfl,rfl⟩⟩:=h;exact⟨A0,c0,rfl,l0,g0⟩
theorem k41_mk (w:World) (x:S41) {A0:Option Addr} {c0:Nat} (l0:x.f0.length<=c0) (g0:k65.C w A0 x.f0.length x.f0):k41.K w x [.slice A0 x.f0.length c0,.int .i64 x.f1,.int .i64 x.f2]:=⟨[.slice A0 x.f0.length c0],[.int .i64 x.f1,.int .i64 x.f2],rfl,⟨A0,c0,rfl,l0,g0⟩,⟨[.int .i64 x.f1],[.int .i64 x.f2],rfl,rfl,rfl⟩⟩
theorem k41_mkM (w:World) (base:Nat) (ok:Nat->Prop) (x:S41) {v0:Value} (g0:k65.R 65 w base ok v0 x.f0):k41.M w base ok x [v0,.int .i64 x.f1,.int .i64 x.f2]:=⟨[v0],[.int .i64 x.f1,.int .i64 x.f2],rfl,⟨v0,rfl,g0⟩,⟨[.int .i64 x.f1],[.int .i64 x.f2],rfl,rfl,rfl⟩⟩
def rd_T41 (xs:List S41) (i:Int):S41:=xs.getD i.toNat z41
theorem at_T41 {w:World} {A:Option Addr} {n:Nat} {xs:List S41} (h:Kd.C k41 w A n xs) (i:Int) (h0:0<=i) (h1:i<n):∃ ad A0 c0,A=some ad/\w.cell? (ad.add (i.toNat*3))=some (.slice A0 (rd_T41 xs i).f0.length c0)/\w.cell? ⟨(ad.add (i.toNat*3)).block,(ad.add (i.toNat*3)).off+1,none⟩=some (.int .i64 (rd_T41 xs i).f1)/\w.cell? ⟨(ad.add (i.toNat*3)).block,(ad.add (i.toNat*3)).off+2,none⟩=some (.int .i64 (rd_T41 xs i).f2)/\(rd_T41 xs i).f0.length<=c0/\k65.C w A0 (rd_T41 xs i).f0.length (rd_T41 xs i).f0:=by
 obtain⟨ad,c,e,_,hK,hc0⟩:=Kd.C_get h z41 i h0 h1;have hc:∀ j u,c[j]? = some u->w.cell? (ad.add (i.toNat*3+j))=some u:=hc0;obtain⟨A0,c0,rfl,l0,g0⟩:=k41_open hK;exact⟨ad,A0,c0,e,hc 0 _ rfl,by rw[<- add_field _ _ 1 zq4];exact hc 1 _ rfl,by rw[<- add_field _ _ 2 zq4];exact hc 2 _ rfl,l0,g0⟩
structure S68 where
 f0:Int
 f1:Int
 f2:ByteArray
def z68:S68:=⟨(0:Int),(0:Int),(⟨#[]⟩:ByteArray)⟩
def k68:Kd S68:=Kd.iso (Kd.pair (Kd.int .i64) (Kd.pair (Kd.int .i64) Kd.string)) (fun x:S68=>(x.f0,x.f1,x.f2))
theorem k68_open {w:World} {x:S68} {cs:List Value} (h:k68.K w x cs):cs=[.int .i64 x.f0,.int .i64 x.f1,.string x.f2]:=by
 obtain⟨_,_,rfl,rfl,⟨_,_,rfl,rfl,rfl⟩⟩:=h;exact rfl
theorem k68_mk (w:World) (x:S68)  : k68.K w x [.int .i64 x.f0,.int .i64 x.f1,.string x.f2]:=⟨[.int .i64 x.f0],[.int .i64 x.f1,.string x.f2],rfl,rfl,⟨[.int .i64 x.f1],[.string x.f2],rfl,rfl,rfl⟩⟩
def rd_T68 (xs:List S68) (i:Int):S68:=xs.getD i.toNat z68
theorem at_T68 {w:World} {A:Option Addr} {n:Nat} {xs:List S68} (h:Kd.C k68 w A n xs) (i:Int) (h0:0<=i) (h1:i<n):∃ ad ,A=some ad/\w.cell? (ad.add (i.toNat*3))=some (.int .i64 (rd_T68 xs i).f0)/\w.cell? ⟨(ad.add (i.toNat*3)).block,(ad.add (i.toNat*3)).off+1,none⟩=some (.int .i64 (rd_T68 xs i).f1)/\w.cell? ⟨(ad.add (i.toNat*3)).block,(ad.add (i.toNat*3)).off+2,none⟩=some (.string (rd_T68 xs i).f2):=by
 obtain⟨ad,c,e,_,hK,hc0⟩:=Kd.C_get h z68 i h0 h1;have hc:∀ j u,c[j]? = some u->w.cell? (ad.add (i.toNat*3+j))=some u:=hc0;obtain rfl:=k68_open hK;exact⟨ad,e,hc 0 _ rfl,by rw[<- add_field _ _ 1 zq4];exact hc 1 _ rfl,by rw[<- add_field _ _ 2 zq4];exact hc 2 _ rfl⟩
structure S85 where
 f0:Int
 f1:Int
def z85:S85:=⟨(0:Int),(0:Int)⟩
def k85:Kd S85:=Kd.iso (Kd.pair (Kd.int .i64) (Kd.int .i64)) (fun x:S85=>(x.f0,x.f1))
theorem k85_open {w:World} {x:S85} {cs:List Value} (h:k85.K w x cs):cs=[.int .i64 x.f0,.int .i64 x.f1]:=by
 obtain⟨_,_,rfl,rfl,rfl⟩:=h;exact rfl
theorem k85_openM {w:World} {base:Nat} {ok:Nat->Prop} {x:S85} {cs:List Value} (h:k85.M w base ok x cs):cs=[.int .i64 x.f0,.int .i64 x.f1]:=by
 obtain⟨_,_,rfl,rfl,rfl⟩:=h;exact rfl
theorem k85_mkM (w:World) (base:Nat) (ok:Nat->Prop) (x:S85)  : k85.M w base ok x [.int .i64 x.f0,.int .i64 x.f1]:=⟨[.int .i64 x.f0],[.int .i64 x.f1],rfl,rfl,rfl⟩
def rd_T85 (xs:List S85) (i:Int):S85:=xs.getD i.toNat z85
theorem at_T85 {w:World} {A:Option Addr} {n:Nat} {xs:List S85} (h:Kd.C k85 w A n xs) (i:Int) (h0:0<=i) (h1:i<n):∃ ad ,A=some ad/\w.cell? (ad.add (i.toNat*2))=some (.int .i64 (rd_T85 xs i).f0)/\w.cell? ⟨(ad.add (i.toNat*2)).block,(ad.add (i.toNat*2)).off+1,none⟩=some (.int .i64 (rd_T85 xs i).f1):=by
 obtain⟨ad,c,e,_,hK,hc0⟩:=Kd.C_get h z85 i h0 h1;have hc:∀ j u,c[j]? = some u->w.cell? (ad.add (i.toNat*2+j))=some u:=hc0;obtain rfl:=k85_open hK;exact⟨ad,e,hc 0 _ rfl,by rw[<- add_field _ _ 1 zq4];exact hc 1 _ rfl⟩
def rd_L7 (xs:List (List S68)) (i:Int):(List S68):=xs.getD i.toNat ([]:List S68)
theorem at_L7 {w:World} {A:Option Addr} {n:Nat} {xs:List (List S68)} (h:Kd.C (Kd.slice 68 k68) w A n xs) (i:Int) (h0:0<=i) (h1:i<n):∃ ad A0 c0,A=some ad/\w.cell? (ad.add i.toNat)=some (.slice A0 (rd_L7 xs i).length c0)/\(rd_L7 xs i).length<=c0/\k68.C w A0 (rd_L7 xs i).length (rd_L7 xs i):=by
 obtain⟨ad,c,e,_,hK,hc0⟩:=Kd.C_get h ([]:List S68) i h0 h1;have hc:∀ j u,c[j]? = some u->w.cell? (ad.add (i.toNat*1+j))=some u:=hc0;obtain⟨A0,c0,rfl,l0,g0⟩:=hK;exact⟨ad,A0,c0,e,by have hq:=hc 0 _ rfl;rwa [Nat.mul_one,Nat.add_zero] at hq,l0,g0⟩
attribute [local go_sem] max2_int min2_int max_two min_two max_three min_three max_four min_four
theorem eqA65 (d:Nat) (w:World) (x0 y0:Int) (x1 y1:Int) (x2 y2:ByteArray) :
  (Op.equalIn (d+2) 65 (.agg #[.int .i64 x0,.int .i64 x1,.string x2]) (.agg #[.int .i64 y0,.int .i64 y1,.string y2])).run Tryz.prog w = .ok (x0 == y0 && (x1 == y1 && (x2.toList == y2.toList))) w:=by
 refine eqA_of Tryz.underlying65 zq17 ?_;refine eqf_cons (by rfl) (by go_simp;rfl) (by go_simp;rfl) (by go_simp) ?_;refine eqf_cons (by rfl) (by go_simp;rfl) (by go_simp;rfl) (by go_simp) ?_;exact eqf_last (by rfl) (by go_simp;rfl) (by go_simp;rfl) (by go_simp)
attribute [local go_sem] max2_int min2_int max_two min_two max_three min_three max_four min_four
theorem eqA85 (d:Nat) (w:World) (x0 y0:Int) (x1 y1:Int) :
  (Op.equalIn (d+2) 85 (.agg #[.int .i64 x0,.int .i64 x1]) (.agg #[.int .i64 y0,.int .i64 y1])).run Tryz.prog w = .ok (x0 == y0 && (x1 == y1)) w:=by
 refine eqA_of Tryz.underlying85 zq17 ?_;refine eqf_cons (by rfl) (by go_simp;rfl) (by go_simp;rfl) (by go_simp) ?_;exact eqf_last (by rfl) (by go_simp;rfl) (by go_simp;rfl) (by go_simp)
attribute [local go_sem] max2_int min2_int max_two min_two max_three min_three max_four min_four
mutual
def expr_Takes.j0:Nat->Int->Bool->Option (Int)
 | 0,_,_=>none
 | k+1,x0,x3=>if x3=true then (some 0) else (if x0 >= 4 then (expr_Takes.j1 k x0 (decide (x0<=6))) else (expr_Takes.j1 k x0 false))
def expr_Takes.j1:Nat->Int->Bool->Option (Int)
 | 0,_,_=>none
 | k+1,x0,x10=>if x10=true then (some 1) else (if x0 >= 7 then (if x0<=20 then (some 2) else (some (-1))) else (some (-1)))
end
def expr_Takes.f (k:Nat) (a0:Int):Option (Int):=if a0 >= 1 then (expr_Takes.j0 k a0 (decide (a0<=3))) else (expr_Takes.j0 k a0 false)
theorem expr_Takes.calls (k:Nat) (a0:Int) (r:Int) (w:World) (h:expr_Takes.f k a0=some r) :
  Calls Tryz.prog 83 #[.int .i64 a0] w fun e w'=>e = .returned (.int .i64 r)/\Drawn0 w w':=by
 have H:(if a0 >= 1 then (expr_Takes.j0 k a0 (decide (a0<=3))) else (expr_Takes.j0 k a0 false))=some r:=h;clear h;have HC2:=Aside0.mk H;clear H;go_enter Tryz.func83,Tryz.ntmps83
 go_upto_region 1 with (fail)
 go_cut [3] (fun v3 wc=>∃ (kq:Nat) (x3_1:Bool),v3 = .bool x3_1/\Aside0 (expr_Takes.j0 kq a0 x3_1=some r)/\Aside0 (kq<=k)/\Drawn0 w wc)
 case first =>
  have H:=HC2.out;clear HC2
  by_cases c3:a0 >= 1
  ·rw[if_pos c3] at H
   have c3b0:decide (1<=a0)=true:=DET c3;clear c3
   (first | rw[c3b0] | (simp only[i64_w,i32_w];rw[c3b0]) | skip)
   have H':=Aside0.mk H;clear H;go_wp2
   go_meet
   case rel=>exact⟨_,(decide (a0<=3)),zq3,H',⟨zq32⟩,zq5⟩
  ·rw[if_neg c3] at H
   have c3b0:decide (1<=a0)=false:=DEF c3;clear c3
   (first | rw[c3b0] | (simp only[i64_w,i32_w];rw[c3b0]) | skip)
   have H':=Aside0.mk H;clear H;go_wp2
   go_meet
   case rel=>exact⟨_,(false),zq3,H',⟨zq32⟩,zq5⟩
 case rest =>
  clear HC2
  try clear p2
  try clear c3
  try clear c3b0
  obtain⟨kq,x3_1,rfl,HA,HJ1,⟨mc1,rfl⟩⟩:=hcut;cases kq with
  | zero=>exact absurd HA.out (by simp[expr_Takes.j0])
  | succ kj1 =>
   have H:=HA.out;clear HA;simp only[expr_Takes.j0] at H
   by_cases c4:x3_1=true
   ·subst c4
    have H1:(some 0)=some r:=by rw[if_pos rfl] at H;exact H
    clear H;have H:=H1;clear H1;obtain rfl:=OSI H;go_wp2;go_ret;exact⟨zq3,zq5⟩
   ·replace c4:=Bool.eq_false_iff.mpr c4
    subst c4;have H1:(if a0 >= 4 then (expr_Takes.j1 kj1 a0 (decide (a0<=6))) else (expr_Takes.j1 kj1 a0 false))=some r:=by rw[if_neg (show ¬ (false=true) by decide)] at H;exact H
    clear H;have H:=H1;clear H1;have HC5:=Aside0.mk H;clear H
    go_upto_region 3 with (fail)
    go_cut [10] (fun v10 wc=>∃ (kq:Nat) (x10_4:Bool),v10 = .bool x10_4/\Aside0 (expr_Takes.j1 kq a0 x10_4=some r)/\Aside0 (kq<=kj1)/\Drawn0 w wc)
    case first =>
     have H:=HC5.out;clear HC5
     by_cases c6:a0 >= 4
     ·rw[if_pos c6] at H
      have c6b0:decide (4<=a0)=true:=DET c6;clear c6
      (first | rw[c6b0] | (simp only[i64_w,i32_w];rw[c6b0]) | skip)
      have H':=Aside0.mk H;clear H;go_wp2
      go_meet
      case rel=>exact⟨_,(decide (a0<=6)),zq3,H',⟨by have:=HJ1.out;first | omega | exact Nat.le_refl _⟩,zq5⟩
     ·rw[if_neg c6] at H
      have c6b0:decide (4<=a0)=false:=DEF c6;clear c6
      (first | rw[c6b0] | (simp only[i64_w,i32_w];rw[c6b0]) | skip)
      have H':=Aside0.mk H;clear H;go_wp2
      go_meet
      case rel=>exact⟨_,(false),zq3,H',⟨by have:=HJ1.out;first | omega | exact Nat.le_refl _⟩,zq5⟩
    case rest =>
     clear HC5
     try clear c1
     try clear p2
     try clear c3
     try clear c3b0
     try clear c4
     try clear c6
     try clear c6b0
     try clear p2
     obtain⟨kq,x10_4,rfl,HA,HJ4,⟨mc4,rfl⟩⟩:=hcut;cases kq with
     | zero=>exact absurd HA.out (by simp[expr_Takes.j1])
     | succ kj4 =>
      have H:=HA.out;clear HA;simp only[expr_Takes.j1] at H
      by_cases c7:x10_4=true
      ·subst c7
       have H1:(some 1)=some r:=by rw[if_pos rfl] at H;exact H
       clear H;have H:=H1;clear H1;obtain rfl:=OSI H;go_wp2;go_ret;exact⟨zq3,zq5⟩
      ·replace c7:=Bool.eq_false_iff.mpr c7
       subst c7;have H1:(if a0 >= 7 then (if a0<=20 then (some 2) else (some (-1))) else (some (-1)))=some r:=by rw[if_neg (show ¬ (false=true) by decide)] at H;exact H
       clear H;have H:=H1;clear H1
       by_cases c8:a0 >= 7
       ·rw[if_pos c8] at H
        have c8b0:decide (7<=a0)=true:=DET c8;clear c8
        by_cases c9:a0<=20
        ·rw[if_pos c9] at H
         have c9b0:decide (a0<=20)=true:=DET c9;clear c9;obtain rfl:=OSI H;go_wp2;go_ret;exact⟨zq3,zq5⟩
        ·rw[if_neg c9] at H
         have c9b0:decide (a0<=20)=false:=DEF c9;clear c9;obtain rfl:=OSI H;go_wp2;go_ret;exact⟨zq3,zq5⟩
       ·rw[if_neg c8] at H
        have c8b0:decide (7<=a0)=false:=DEF c8;clear c8;obtain rfl:=OSI H;go_wp2;go_ret;exact⟨zq3,zq5⟩
def expr_word.f (k:Nat) (a0_0:Int) (a0_1:Int) (a0_2:ByteArray):Option (Bool):=if a0_0=1 then (some (a0_2.toList == ([]:List UInt8))) else (if a0_0=2 then (if a0_1=0 then (some (decide ((a0_2.size:Int)<=64))) else (some false)) else (if a0_0=3 then (if a0_1 >= 0 then (if a0_1<8 then (some (a0_2.toList == ([]:List UInt8))) else (some false)) else (some false)) else ((expr_Takes.f k a0_0).bind fun t102=>(if t102 >= 0 then (if a0_1=0 then (some (a0_2.toList == ([]:List UInt8))) else (some false)) else (some false)))))
theorem expr_word.calls (k:Nat) (a0_0:Int) (a0_1:Int) (a0_2:ByteArray) (r:Bool) (w:World) (h:expr_word.f k a0_0 a0_1 a0_2=some r) :
  Calls Tryz.prog 82 #[.agg #[.int .i64 a0_0,.int .i64 a0_1,.string a0_2]] w fun e w'=>e = .returned (.bool r)/\Below w.heap.size w w':=by
 have hu68:=Tryz.underlying68;have HB:=Aside0.mk (Below.refl w.heap.size w);have H:(if a0_0=1 then (some (a0_2.toList == ([]:List UInt8))) else (if a0_0=2 then (if a0_1=0 then (some (decide ((a0_2.size:Int)<=64))) else (some false)) else (if a0_0=3 then (if a0_1 >= 0 then (if a0_1<8 then (some (a0_2.toList == ([]:List UInt8))) else (some false)) else (some false)) else ((expr_Takes.f k a0_0).bind fun t102=>(if t102 >= 0 then (if a0_1=0 then (some (a0_2.toList == ([]:List UInt8))) else (some false)) else (some false))))))=some r:=h;clear h
 by_cases c2:a0_0=1
 ·rw[if_pos c2] at H
  have c2b0:(a0_0 == 1)=true:=beq_iff_eq.mpr c2;have c2b1:(a0_0 != 1)=false:=bne_eq_false_iff_eq.mpr c2;clear c2;obtain rfl:=OSI H;go_enter Tryz.func82,Tryz.ntmps82
  go_wp2_with (first | ((with_reducible refine gate_dst (N:=1) rfl ?_);(try (refine gate_guard (by rfl) ?_;dsimp only));refine bZ 1 #[.int .i64 a0_0,.int .i64 a0_1,.string a0_2] 68 ?_;intro gb101 hg w3 hbox hb;have BK101:=Aside0.mk (hbox);have GW101:=GB HB hg;have GE101:=GW101;replace HB:=BB HB hb;clear hb hbox hg;obtain⟨hcz4_0,hcz4_1,hcz4_2,hfz4_0,hfz4_1,hfz4_2⟩:=bL3 BK101))
  go_ret;exact⟨zq2,zq24⟩
 ·rw[if_neg c2] at H
  have c2b0:(a0_0 == 1)=false:=BNM c2;have c2b1:(a0_0 != 1)=true:=bne_iff_ne.mpr c2
  by_cases c5:a0_0=2
  ·rw[if_pos c5] at H
   have c5b0:(a0_0 == 2)=true:=beq_iff_eq.mpr c5;have c5b1:(a0_0 != 2)=false:=bne_eq_false_iff_eq.mpr c5;clear c5
   by_cases c6:a0_1=0
   ·rw[if_pos c6] at H
    have c6b0:(a0_1 == 0)=true:=beq_iff_eq.mpr c6;have c6b1:(a0_1 != 0)=false:=bne_eq_false_iff_eq.mpr c6;clear c6;obtain rfl:=OSI H;go_enter Tryz.func82,Tryz.ntmps82
    go_wp2_with (first | ((with_reducible refine gate_dst (N:=1) rfl ?_);(try (refine gate_guard (by rfl) ?_;dsimp only));refine bZ 1 #[.int .i64 a0_0,.int .i64 a0_1,.string a0_2] 68 ?_;intro gb101 hg w7 hbox hb;have BK101:=Aside0.mk (hbox);have GW101:=GB HB hg;have GE101:=GW101;replace HB:=BB HB hb;clear hb hbox hg;obtain⟨hcz8_0,hcz8_1,hcz8_2,hfz8_0,hfz8_1,hfz8_2⟩:=bL3 BK101))
    go_ret;exact⟨zq2,zq24⟩
   ·rw[if_neg c6] at H
    have c6b0:(a0_1 == 0)=false:=BNM c6;have c6b1:(a0_1 != 0)=true:=bne_iff_ne.mpr c6;obtain rfl:=OSI H;go_enter Tryz.func82,Tryz.ntmps82
    go_wp2_with (first | ((with_reducible refine gate_dst (N:=1) rfl ?_);(try (refine gate_guard (by rfl) ?_;dsimp only));refine bZ 1 #[.int .i64 a0_0,.int .i64 a0_1,.string a0_2] 68 ?_;intro gb101 hg w9 hbox hb;have BK101:=Aside0.mk (hbox);have GW101:=GB HB hg;have GE101:=GW101;replace HB:=BB HB hb;clear hb hbox hg;obtain⟨hcz10_0,hcz10_1,hcz10_2,hfz10_0,hfz10_1,hfz10_2⟩:=bL3 BK101))
    go_ret;exact⟨zq2,zq24⟩
  ·rw[if_neg c5] at H
   have c5b0:(a0_0 == 2)=false:=BNM c5;have c5b1:(a0_0 != 2)=true:=bne_iff_ne.mpr c5
   by_cases c11:a0_0=3
   ·rw[if_pos c11] at H
    have c11b0:(a0_0 == 3)=true:=beq_iff_eq.mpr c11;have c11b1:(a0_0 != 3)=false:=bne_eq_false_iff_eq.mpr c11;clear c11
    by_cases c12:a0_1 >= 0
    ·rw[if_pos c12] at H
     have c12b0:decide (0<=a0_1)=true:=DET c12;clear c12
     by_cases c13:a0_1<8
     ·rw[if_pos c13] at H
      have c13b0:decide (a0_1<8)=true:=DET c13;clear c13;obtain rfl:=OSI H;go_enter Tryz.func82,Tryz.ntmps82
      go_wp2_with (first | ((with_reducible refine gate_dst (N:=1) rfl ?_);(try (refine gate_guard (by rfl) ?_;dsimp only));refine bZ 1 #[.int .i64 a0_0,.int .i64 a0_1,.string a0_2] 68 ?_;intro gb101 hg w14 hbox hb;have BK101:=Aside0.mk (hbox);have GW101:=GB HB hg;have GE101:=GW101;replace HB:=BB HB hb;clear hb hbox hg;obtain⟨hcz15_0,hcz15_1,hcz15_2,hfz15_0,hfz15_1,hfz15_2⟩:=bL3 BK101))
      go_ret;exact⟨zq2,zq24⟩
     ·rw[if_neg c13] at H
      have c13b0:decide (a0_1<8)=false:=DEF c13;clear c13;obtain rfl:=OSI H;go_enter Tryz.func82,Tryz.ntmps82
      go_wp2_with (first | ((with_reducible refine gate_dst (N:=1) rfl ?_);(try (refine gate_guard (by rfl) ?_;dsimp only));refine bZ 1 #[.int .i64 a0_0,.int .i64 a0_1,.string a0_2] 68 ?_;intro gb101 hg w16 hbox hb;have BK101:=Aside0.mk (hbox);have GW101:=GB HB hg;have GE101:=GW101;replace HB:=BB HB hb;clear hb hbox hg;obtain⟨hcz17_0,hcz17_1,hcz17_2,hfz17_0,hfz17_1,hfz17_2⟩:=bL3 BK101))
      go_ret;exact⟨zq2,zq24⟩
    ·rw[if_neg c12] at H
     have c12b0:decide (0<=a0_1)=false:=DEF c12;clear c12;obtain rfl:=OSI H;go_enter Tryz.func82,Tryz.ntmps82
     go_wp2_with (first | ((with_reducible refine gate_dst (N:=1) rfl ?_);(try (refine gate_guard (by rfl) ?_;dsimp only));refine bZ 1 #[.int .i64 a0_0,.int .i64 a0_1,.string a0_2] 68 ?_;intro gb101 hg w18 hbox hb;have BK101:=Aside0.mk (hbox);have GW101:=GB HB hg;have GE101:=GW101;replace HB:=BB HB hb;clear hb hbox hg;obtain⟨hcz19_0,hcz19_1,hcz19_2,hfz19_0,hfz19_1,hfz19_2⟩:=bL3 BK101))
     go_ret;exact⟨zq2,zq24⟩
   ·rw[if_neg c11] at H
    have c11b0:(a0_0 == 3)=false:=BNM c11;have c11b1:(a0_0 != 3)=true:=bne_iff_ne.mpr c11;replace H:=Option.bind_eq_some_iff.mp H;obtain⟨t102,A200,H⟩:=H;replace H:(if t102 >= 0 then (if a0_1=0 then (some (a0_2.toList == ([]:List UInt8))) else (some false)) else (some false))=some r:=H;have A20:=Aside0.mk A200;clear A200
    by_cases c21:t102 >= 0
    ·rw[if_pos c21] at H
     have c21b0:decide (0<=t102)=true:=DET c21;clear c21
     by_cases c22:a0_1=0
     ·rw[if_pos c22] at H
      have c22b0:(a0_1 == 0)=true:=beq_iff_eq.mpr c22;have c22b1:(a0_1 != 0)=false:=bne_eq_false_iff_eq.mpr c22;clear c22;obtain rfl:=OSI H;go_enter Tryz.func82,Tryz.ntmps82
      go_wp2_with (first | ((with_reducible refine gate_dst (N:=1) rfl ?_);(try (refine gate_guard (by rfl) ?_;dsimp only));refine bZ 1 #[.int .i64 a0_0,.int .i64 a0_1,.string a0_2] 68 ?_;intro gb101 hg w23 hbox hb;have BK101:=Aside0.mk (hbox);have GW101:=GB HB hg;have GE101:=GW101;replace HB:=BB HB hb;clear hb hbox hg;obtain⟨hcz24_0,hcz24_1,hcz24_2,hfz24_0,hfz24_1,hfz24_2⟩:=bL3 BK101) | (refine gZ 38 Tryz.func83 #[.int .i64 a0_0] ?_;(with_reducible refine (expr_Takes.calls k a0_0 t102 _ A20.out).mono ?_);rintro e w' ⟨rfl,⟨nd,rfl⟩⟩;refine⟨_,rfl,?_⟩))
      go_ret;exact⟨zq2,zq24⟩
     ·rw[if_neg c22] at H
      have c22b0:(a0_1 == 0)=false:=BNM c22;have c22b1:(a0_1 != 0)=true:=bne_iff_ne.mpr c22;obtain rfl:=OSI H;go_enter Tryz.func82,Tryz.ntmps82
      go_wp2_with (first | ((with_reducible refine gate_dst (N:=1) rfl ?_);(try (refine gate_guard (by rfl) ?_;dsimp only));refine bZ 1 #[.int .i64 a0_0,.int .i64 a0_1,.string a0_2] 68 ?_;intro gb101 hg w25 hbox hb;have BK101:=Aside0.mk (hbox);have GW101:=GB HB hg;have GE101:=GW101;replace HB:=BB HB hb;clear hb hbox hg;obtain⟨hcz26_0,hcz26_1,hcz26_2,hfz26_0,hfz26_1,hfz26_2⟩:=bL3 BK101) | (refine gZ 38 Tryz.func83 #[.int .i64 a0_0] ?_;(with_reducible refine (expr_Takes.calls k a0_0 t102 _ A20.out).mono ?_);rintro e w' ⟨rfl,⟨nd,rfl⟩⟩;refine⟨_,rfl,?_⟩))
      go_ret;exact⟨zq2,zq24⟩
    ·rw[if_neg c21] at H
     have c21b0:decide (0<=t102)=false:=DEF c21;clear c21;obtain rfl:=OSI H;go_enter Tryz.func82,Tryz.ntmps82
     go_wp2_with (first | ((with_reducible refine gate_dst (N:=1) rfl ?_);(try (refine gate_guard (by rfl) ?_;dsimp only));refine bZ 1 #[.int .i64 a0_0,.int .i64 a0_1,.string a0_2] 68 ?_;intro gb101 hg w27 hbox hb;have BK101:=Aside0.mk (hbox);have GW101:=GB HB hg;have GE101:=GW101;replace HB:=BB HB hb;clear hb hbox hg;obtain⟨hcz28_0,hcz28_1,hcz28_2,hfz28_0,hfz28_1,hfz28_2⟩:=bL3 BK101) | (refine gZ 38 Tryz.func83 #[.int .i64 a0_0] ?_;(with_reducible refine (expr_Takes.calls k a0_0 t102 _ A20.out).mono ?_);rintro e w' ⟨rfl,⟨nd,rfl⟩⟩;refine⟨_,rfl,?_⟩))
     go_ret;exact⟨zq2,zq24⟩
def expr_Form.l0:Nat->Int->List (S68)->Int->Int->Option (Int)
 | 0,_,_,_,_=>none
 | k+1,x3,x9,x10,x11=>if x11<x10 then (if 0<=x11 then (if x11<(x9.length:Int) then ((expr_word.f k ((rd_T68 x9 x11).f0) ((rd_T68 x9 x11).f1) ((rd_T68 x9 x11).f2)).bind fun t105=>(if t105=true then ((expr_Takes.f k ((rd_T68 x9 x11).f0)).bind fun t106=>(if t106 > x3 then (some 18) else ((expr_Takes.f k ((rd_T68 x9 x11).f0)).bind fun t107=>(expr_Form.l0 k (wrap64 (x3+(wrap64 (1 - t107)))) x9 x10 (wrap64 (x11+1)))))) else (some 18))) else (none)) else (none)) else (if x3=1 then (some 0) else (some 18))
def expr_Form.f (k:Nat) (l0:List (S68)):Option (Int):=if (l0.length:Int) > 64 then (some 6) else (expr_Form.l0 k 0 l0 (l0.length:Int) 0)
theorem expr_Form.calls (k:Nat) (A0:Option Addr) (c0:Nat) (l0:List (S68)) (r:Int) (w:World) (hr0:Kd.C k68 w A0 l0.length l0) (hc0:l0.length<=c0) (h:expr_Form.f k l0=some r) :
  Calls Tryz.prog 47 #[.slice A0 l0.length c0] w fun e w'=>e = .returned (.int .i64 r)/\Below w.heap.size w w':=by
 have hu68:=Tryz.underlying68;have HR0:=Aside0.mk hr0;have HC0:=Aside0.mk hc0;clear hr0 hc0;have HB:=Aside0.mk (Below.refl w.heap.size w);have H:(if (l0.length:Int) > 64 then (some 6) else (expr_Form.l0 k 0 l0 (l0.length:Int) 0))=some r:=h;clear h
 by_cases c2:(l0.length:Int) > 64
 ·rw[if_pos c2] at H
  have c2b0:decide (64<(l0.length:Int))=true:=DET c2;have c2b1:decide (64<l0.length)=true:=DET zq4;clear c2;obtain rfl:=OSI H;go_enter Tryz.func47,Tryz.ntmps47;go_wp2;go_ret;exact⟨zq2,zq0⟩
 ·rw[if_neg c2] at H
  have c2b0:decide (64<(l0.length:Int))=false:=DEF c2;have c2b1:decide (64<l0.length)=false:=DEF zq4;clear c2;have H':=Aside0.mk H;clear H;go_enter Tryz.func47,Tryz.ntmps47;go_wp2
  go_loopg [3,11] k (fun kq v3 v11 w'=>∃ (x3_1:Int) (x11_1:Int),v3 = .int .i64 x3_1/\v11 = .int .i64 x11_1/\Aside0 (expr_Form.l0 kq x3_1 l0 (l0.length:Int) x11_1=some r)/\Aside0 (kq<=k)/\Aside0 (Below w.heap.size w w'))
  case atStart=>exact⟨(0),(0),zq3,zq3,H',⟨Nat.le_refl _⟩,⟨zq0⟩⟩
  case round =>
   clear H'
   try clear c2
   try clear c2b0
   try clear c2b1
   try clear p2
   obtain⟨x3_1,x11_1,rfl,rfl,HA,HK1,HB⟩:=hrel;cases gk with
   | zero=>exact absurd HA.out (by simp[expr_Form.l0])
   | succ k1 =>
    have H:=HA.out;clear HA;simp only[expr_Form.l0] at H
    by_cases c3:x11_1<(l0.length:Int)
    ·rw[if_pos c3] at H
     have c3b0:decide (x11_1<(l0.length:Int))=true:=DET c3;clear c3
     by_cases c4:0<=x11_1
     ·rw[if_pos c4] at H
      have c4b0:decide (0<=x11_1)=true:=DET c4;clear c4
      by_cases c5:x11_1<(l0.length:Int)
      ·rw[if_pos c5] at H
       have c5b0:decide (x11_1<(l0.length:Int))=true:=DET c5;clear c5;replace H:=Option.bind_eq_some_iff.mp H;obtain⟨t105,A60,H⟩:=H;replace H:(if t105=true then ((expr_Takes.f k1 ((rd_T68 l0 x11_1).f0)).bind fun t106=>(if t106 > x3_1 then (some 18) else ((expr_Takes.f k1 ((rd_T68 l0 x11_1).f0)).bind fun t107=>(expr_Form.l0 k1 (wrap64 (x3_1+(wrap64 (1 - t107)))) l0 (l0.length:Int) (wrap64 (x11_1+1)))))) else (some 18))=some r:=H;have A6:=Aside0.mk A60;clear A60
       by_cases c7:t105=true
       ·subst c7
        have H1:((expr_Takes.f k1 ((rd_T68 l0 x11_1).f0)).bind fun t106=>(if t106 > x3_1 then (some 18) else ((expr_Takes.f k1 ((rd_T68 l0 x11_1).f0)).bind fun t107=>(expr_Form.l0 k1 (wrap64 (x3_1+(wrap64 (1 - t107)))) l0 (l0.length:Int) (wrap64 (x11_1+1))))))=some r:=by rw[if_pos rfl] at H;exact H
        clear H;have H:=H1;clear H1;replace H:=Option.bind_eq_some_iff.mp H;obtain⟨t106,A80,H⟩:=H;replace H:(if t106 > x3_1 then (some 18) else ((expr_Takes.f k1 ((rd_T68 l0 x11_1).f0)).bind fun t107=>(expr_Form.l0 k1 (wrap64 (x3_1+(wrap64 (1 - t107)))) l0 (l0.length:Int) (wrap64 (x11_1+1)))))=some r:=H;have A8:=Aside0.mk A80;clear A80
        by_cases c9:t106 > x3_1
        ·rw[if_pos c9] at H
         have c9b0:decide (x3_1<t106)=true:=DET c9;clear c9;obtain rfl:=OSI H;have p103:0<=(x11_1:Int):=ODT zq1;have q103:x11_1<(l0.length:Int):=ODT zq1;obtain⟨ad103,e103,hx103_0,hx103_1,hx103_2⟩:=at_T68 HR0.out x11_1 p103 q103;cases e103;replace hx103_0:=hZ hx103_0 HB.out;replace hx103_1:=hZ hx103_1 HB.out;replace hx103_2:=hZ hx103_2 HB.out;replace p103:=eq_true p103;replace q103:=eq_true q103
         go_wp2_with (first | (refine bZ 5 #[.int .i64 0,.int .i64 0,.string (⟨#[]⟩:ByteArray)] 68 ?_;intro gb104 hg w10 hbox hb;have BK104:=Aside0.mk (hbox);have GW104:=GB HB hg;have GE104:=GW104;replace HB:=BB HB hb;clear hb hbox hg;obtain⟨hcz11_0,hcz11_1,hcz11_2,hfz11_0,hfz11_1,hfz11_2⟩:=bL3 BK104) | (refine gZ 16 Tryz.func82 #[.agg #[.int .i64 ((rd_T68 l0 x11_1).f0),.int .i64 ((rd_T68 l0 x11_1).f1),.string ((rd_T68 l0 x11_1).f2)]] ?_;(with_reducible refine (expr_word.calls k1 ((rd_T68 l0 x11_1).f0) ((rd_T68 l0 x11_1).f1) ((rd_T68 l0 x11_1).f2) true _ A6.out).mono ?_);rintro e w12 ⟨rfl,hb⟩;refine⟨_,rfl,?_⟩;replace BK104:=Aside0.mk (blk_below (g:=gb104) (o:=.cells #[.int .i64 ((rd_T68 l0 x11_1).f0),.int .i64 ((rd_T68 l0 x11_1).f1),.string ((rd_T68 l0 x11_1).f2)] 68 (0,0)) zq19 hb);replace HB:=Aside0.mk (below_step zq31 hb);(try clear hb);obtain⟨hcz13_0,hcz13_1,hcz13_2,hfz13_0,hfz13_1,hfz13_2⟩:=bL3 BK104) | (go_at_call 83;(with_reducible refine (expr_Takes.calls k1 ((rd_T68 l0 x11_1).f0) t106 _ A8.out).mono ?_);rintro e w' ⟨rfl,⟨nd,rfl⟩⟩))
         go_ret;exact⟨zq2,zq31⟩
        ·rw[if_neg c9] at H
         have c9b0:decide (x3_1<t106)=false:=DEF c9;clear c9;replace H:=Option.bind_eq_some_iff.mp H;obtain⟨t107,A140,H⟩:=H;replace H:(expr_Form.l0 k1 (wrap64 (x3_1+(wrap64 (1 - t107)))) l0 (l0.length:Int) (wrap64 (x11_1+1)))=some r:=H;have A14:=Aside0.mk A140;clear A140;have H':=Aside0.mk H;clear H;have p103:0<=(x11_1:Int):=ODT zq1;have q103:x11_1<(l0.length:Int):=ODT zq1;obtain⟨ad103,e103,hx103_0,hx103_1,hx103_2⟩:=at_T68 HR0.out x11_1 p103 q103;cases e103;replace hx103_0:=hZ hx103_0 HB.out;replace hx103_1:=hZ hx103_1 HB.out;replace hx103_2:=hZ hx103_2 HB.out;replace p103:=eq_true p103;replace q103:=eq_true q103
         go_wp2_with (first | (refine bZ 5 #[.int .i64 0,.int .i64 0,.string (⟨#[]⟩:ByteArray)] 68 ?_;intro gb104 hg w15 hbox hb;have BK104:=Aside0.mk (hbox);have GW104:=GB HB hg;have GE104:=GW104;replace HB:=BB HB hb;clear hb hbox hg;obtain⟨hcz16_0,hcz16_1,hcz16_2,hfz16_0,hfz16_1,hfz16_2⟩:=bL3 BK104) | (refine gZ 16 Tryz.func82 #[.agg #[.int .i64 ((rd_T68 l0 x11_1).f0),.int .i64 ((rd_T68 l0 x11_1).f1),.string ((rd_T68 l0 x11_1).f2)]] ?_;(with_reducible refine (expr_word.calls k1 ((rd_T68 l0 x11_1).f0) ((rd_T68 l0 x11_1).f1) ((rd_T68 l0 x11_1).f2) true _ A6.out).mono ?_);rintro e w17 ⟨rfl,hb⟩;refine⟨_,rfl,?_⟩;replace BK104:=Aside0.mk (blk_below (g:=gb104) (o:=.cells #[.int .i64 ((rd_T68 l0 x11_1).f0),.int .i64 ((rd_T68 l0 x11_1).f1),.string ((rd_T68 l0 x11_1).f2)] 68 (0,0)) zq19 hb);replace HB:=Aside0.mk (below_step zq31 hb);(try clear hb);obtain⟨hcz18_0,hcz18_1,hcz18_2,hfz18_0,hfz18_1,hfz18_2⟩:=bL3 BK104) | (go_at_call 83;(with_reducible refine (expr_Takes.calls k1 ((rd_T68 l0 x11_1).f0) t106 _ A8.out).mono ?_);rintro e w' ⟨rfl,⟨nd,rfl⟩⟩) | (refine gZ 28 Tryz.func83 #[.int .i64 ((rd_T68 l0 x11_1).f0)] ?_;(with_reducible refine (expr_Takes.calls k1 ((rd_T68 l0 x11_1).f0) t107 _ A14.out).mono ?_);rintro e w' ⟨rfl,⟨nd,rfl⟩⟩;refine⟨_,rfl,?_⟩))
         go_roundg k1
         case measure=>have:=HK1.out;omega
         case rel=>exact⟨(wrap64 (x3_1+(wrap64 (1 - t107)))),(wrap64 (x11_1+1)),zq3,zq3,H',⟨by have:=HK1.out;omega⟩,⟨zq31⟩⟩
       ·replace c7:=Bool.eq_false_iff.mpr c7
        subst c7;have H1:(some 18)=some r:=by rw[if_neg (show ¬ (false=true) by decide)] at H;exact H
        clear H;have H:=H1;clear H1;obtain rfl:=OSI H;have p103:0<=(x11_1:Int):=ODT zq1;have q103:x11_1<(l0.length:Int):=ODT zq1;obtain⟨ad103,e103,hx103_0,hx103_1,hx103_2⟩:=at_T68 HR0.out x11_1 p103 q103;cases e103;replace hx103_0:=hZ hx103_0 HB.out;replace hx103_1:=hZ hx103_1 HB.out;replace hx103_2:=hZ hx103_2 HB.out;replace p103:=eq_true p103;replace q103:=eq_true q103
        go_wp2_with (first | (refine bZ 5 #[.int .i64 0,.int .i64 0,.string (⟨#[]⟩:ByteArray)] 68 ?_;intro gb104 hg w19 hbox hb;have BK104:=Aside0.mk (hbox);have GW104:=GB HB hg;have GE104:=GW104;replace HB:=BB HB hb;clear hb hbox hg;obtain⟨hcz20_0,hcz20_1,hcz20_2,hfz20_0,hfz20_1,hfz20_2⟩:=bL3 BK104) | (refine gZ 16 Tryz.func82 #[.agg #[.int .i64 ((rd_T68 l0 x11_1).f0),.int .i64 ((rd_T68 l0 x11_1).f1),.string ((rd_T68 l0 x11_1).f2)]] ?_;(with_reducible refine (expr_word.calls k1 ((rd_T68 l0 x11_1).f0) ((rd_T68 l0 x11_1).f1) ((rd_T68 l0 x11_1).f2) false _ A6.out).mono ?_);rintro e w21 ⟨rfl,hb⟩;refine⟨_,rfl,?_⟩;replace BK104:=Aside0.mk (blk_below (g:=gb104) (o:=.cells #[.int .i64 ((rd_T68 l0 x11_1).f0),.int .i64 ((rd_T68 l0 x11_1).f1),.string ((rd_T68 l0 x11_1).f2)] 68 (0,0)) zq19 hb);replace HB:=Aside0.mk (below_step zq31 hb);(try clear hb)))
        go_ret;exact⟨zq2,zq31⟩
      ·rw[if_neg c5] at H
       exact absurd H zq30
     ·rw[if_neg c4] at H
      exact absurd H zq30
    ·rw[if_neg c3] at H
     have c3b0:decide (x11_1<(l0.length:Int))=false:=DEF c3;clear c3
     by_cases c22:x3_1=1
     ·rw[if_pos c22] at H
      have c22b0:(x3_1 == 1)=true:=beq_iff_eq.mpr c22;have c22b1:(x3_1 != 1)=false:=bne_eq_false_iff_eq.mpr c22;clear c22;obtain rfl:=OSI H;go_wp2;go_ret;exact⟨zq2,zq0⟩
     ·rw[if_neg c22] at H
      have c22b0:(x3_1 == 1)=false:=BNM c22;have c22b1:(x3_1 != 1)=true:=bne_iff_ne.mpr c22;obtain rfl:=OSI H;go_wp2;go_ret;exact⟨zq2,zq0⟩
inductive Th where
 | num (n:Int)
 | txt (s:ByteArray)
def thOf (k n:Int) (t:ByteArray):Option Th :=
 if k=1/\t.toList=[] then some (.num n) else if k=2/\n=0/\t.size<=64 then some (.txt t) else none
def thVal:Option Th->Value
 | none=>.nilIface
 | some (.num n)=>.iface 178 (.int .i64 n)
 | some (.txt s)=>.iface 182 (.string s)
theorem value_of_calls (k n:Int) (t:ByteArray) (w:World) :
  Calls Tryz.prog 154 #[.agg #[.int .i64 k,.int .i64 n,.string t]] w fun e w'=>e = .returned (.tuple #[thVal (thOf k n t),.bool (thOf k n t).isSome])/\Below w.heap.size w w':=by
 by_cases h1:k=1/\t.toList=[]
 ·have hv:thOf k n t=some (.num n):=by unfold thOf;rw[if_pos h1]
  rw[hv];obtain⟨h1,h2⟩:=h1;have c1:(k == 1)=true:=by simpa using h1
  clear h1 hv;go_enter Tryz.func154,Tryz.ntmps154;go_wp2;go_ret2;exact⟨rfl,(Below.refl _ _).alloc (Nat.le_refl _) _⟩
 ·by_cases h3:k=2/\n=0/\t.size<=64
  ·have hv:thOf k n t=some (.txt t):=by unfold thOf;rw[if_neg h1,if_pos h3]
   rw[hv];obtain⟨h3,h4,h5⟩:=h3;have c1:(k == 1)=false:=by rw[beq_eq_false_iff_ne];omega
   have c2:(k == 2)=true:=by simpa using h3
   have c3:(n == 0)=true:=by simpa using h4
   have c4:decide ((t.size:Int)<=64)=true:=by simp;omega
   clear h1 hv h3 h4 h5;go_enter Tryz.func154,Tryz.ntmps154;go_wp2;go_ret2;exact⟨rfl,(Below.refl _ _).alloc (Nat.le_refl _) _⟩
  ·have hv:thOf k n t=none:=by unfold thOf;rw[if_neg h1,if_neg h3]
   rw[hv];clear hv;have main:∀ (b1:(k == 1)=true/\t.toList.isEmpty=false/\(k == 2)=false\/(k == 1)=false/\((k == 2)=false\/(k == 2)=true/\((n == 0)=false\/(n == 0)=true/\decide ((t.size:Int)<=64)=false))),
     Calls Tryz.prog 154 #[.agg #[.int .i64 k,.int .i64 n,.string t]] w fun e w'=>e = .returned (.tuple #[thVal none,.bool (none:Option Th).isSome])/\Below w.heap.size w w':=by
    clear h1 h3;intro b1
    rcases b1 with ⟨c1,c2,c3⟩ | ⟨c1,c2 | ⟨c2,c3 | ⟨c3,c4⟩⟩⟩
    all_goals
     go_enter Tryz.func154,Tryz.ntmps154;go_wp2
     all_goals (go_ret2;exact⟨rfl,(Below.refl _ _).alloc (Nat.le_refl _) _⟩)
   refine main ?_
   by_cases d1:k=1
   ·refine .inl ⟨by simpa using d1,?_,by rw[beq_eq_false_iff_ne];omega⟩
    have:¬ t.toList=[]:=fun e=>h1 ⟨d1,e⟩
    simpa using this
   ·refine .inr ⟨by simpa using d1,?_⟩
    by_cases d2:k=2
    ·refine .inr ⟨by simpa using d2,?_⟩
     by_cases d3:n=0
     ·refine .inr ⟨by simpa using d3,?_⟩
      have:¬ t.size<=64:=fun e=>h3 ⟨d2,d3,e⟩
      simp;omega
     ·exact .inl (by simpa using d3)
    ·exact .inl (by simpa using d2)
def value_May.f (a0_0:Int) (a0_1:Int) (a0_2:ByteArray):Option (Bool):=some (thOf a0_0 a0_1 a0_2).isSome
theorem value_May.calls (a0_0:Int) (a0_1:Int) (a0_2:ByteArray) (r:Bool) (w:World) (h:value_May.f a0_0 a0_1 a0_2=some r) :
  Calls Tryz.prog 118 #[.agg #[.int .i64 a0_0,.int .i64 a0_1,.string a0_2]] w fun e w'=>e = .returned (.bool r)/\Below w.heap.size w w':=by
 have C:=Hd fun w=>value_of_calls a0_0 a0_1 a0_2 w
 obtain rfl:(thOf a0_0 a0_1 a0_2).isSome=r:=OSI h;clear h;generalize (thOf a0_0 a0_1 a0_2).isSome=r at *;generalize thOf a0_0 a0_1 a0_2=o at *;go_enter Tryz.func118,Tryz.ntmps118
 go_wp2_with (go_at_call 154;((with_reducible refine (C.out _).mono ?_);rintro e w' ⟨rfl,hb⟩))
 go_ret;exact⟨rfl,((Below.refl _ _).alloc (Nat.le_refl _) _).trans (hb.mono zq30)⟩
theorem g_mem_take {α:Type} (l:List α) (k:Nat) (h:k<l.length) (x:α):x ∈ l.take (k+1) ↔ x ∈ l.take k\/x=l[k]:=by
 rw[List.take_add_one,List.getElem?_eq_getElem h,List.mem_append];simp only[Option.toList_some,List.mem_singleton]
def rowMay (l:List S65):Bool:=l.length<=8 && l.all fun v=>(thOf v.f0 v.f1 v.f2).isSome
theorem row_May_fn (x:S65) (w:World) :
  Calls Tryz.prog 117 #[.agg #[.int .i64 x.f0,.int .i64 x.f1,.string x.f2]] w fun e w'=>e = .returned (.bool (!(thOf x.f0 x.f1 x.f2).isSome))/\Below w.heap.size w w':=by
 have C:=Hd fun w=>value_May.calls x.f0 x.f1 x.f2 _ w rfl
 generalize (thOf x.f0 x.f1 x.f2).isSome=r at *;go_enter Tryz.func117,Tryz.ntmps117
 go_wp2_with (go_at_call 118;((with_reducible refine (C.out _).mono ?_);rintro e w' ⟨rfl,hb⟩))
 go_ret;exact⟨rfl,((Below.refl _ _).alloc (Nat.le_refl _) _).trans (hb.mono zq30)⟩
theorem row_IndexFunc (p:S65->Bool) (fn:Nat) (hp:∀ x w,Calls Tryz.prog fn #[.agg #[.int .i64 x.f0,.int .i64 x.f1,.string x.f2]] w fun e w'=>e = .returned (.bool (p x))/\Below w.heap.size w w')
  (hfn:∀ args w,(callFunc fn args).run Tryz.prog w = .ok (.enter fn args) w)
  (A0:Option Addr) (c0:Nat) (l:List S65) (w:World) (hr0:Kd.C k65 w A0 l.length l) (hl:l.length<=1000) :
  Calls Tryz.prog 141 #[.slice A0 l.length c0,.func (Fn.func fn) #[] #[]] w fun e w'=>(∃ r:Int,e = .returned (.int .i64 r)/\decide (0<=r)=l.any p)/\Below w.heap.size w w':=by
 have HR:=Aside0.mk hr0;have HP:=Hd hp;clear hr0 hp;go_enter Tryz.func141,Tryz.ntmps141;go_wp2
 go_loopw [8] (fun v8 wr=>∃ k:Nat,k<=l.length/\v8 = .int .i64 (k:Int)/\Aside0 (∀ x ∈ l.take k,p x=false)/\Aside0 (Below w.heap.size w wr)) (fun v8 wr=>l.length - (intOf v8).toNat)
 case atStart=>exact⟨0,by omega,rfl,⟨by simp⟩,⟨Below.refl _ _⟩⟩
 case round =>
  obtain⟨k,hk,rfl,HN,HB⟩:=hrel
  by_cases c:k<l.length
  ·obtain⟨ad,e1,hx0,hx1,hx2⟩:=at_T65 (Kd.C_below HR.out HB.out) (k:Int) zq4 zq4
   cases e1;rw[Int.toNat_natCast] at hx0 hx1 hx2;have P:=Hd (HP.out (rd_T65 l k));cases hpx:p (rd_T65 l k)
   ·rw[hpx] at P
    generalize hX:rd_T65 l k=X at *;have HX:=Hd hX;have HPX:=Hd hpx;clear hX hpx
    go_wp2_with ((with_reducible refine (P.out _).mono ?_);rintro e w' ⟨rfl,hb⟩)
    go_roundw
    case rel =>
     refine⟨k+1,by omega,by go_num,⟨fun x hx=>?_⟩,⟨HB.out.trans (hb.mono HB.out.size)⟩⟩;have hx':=(g_mem_take l k c x).1 hx;cases hx' with
     | inl h=>exact HN.out x h
     | inr h =>
      have e:=HX.out;unfold rd_T65 at e;rw[Int.toNat_natCast] at e;rw[List.getD_eq_getElem?_getD,List.getElem?_eq_getElem c] at e;rw[h];exact (congrArg p e).trans HPX.out
    case measure=>simp[intOf];omega
   ·rw[hpx] at P
    generalize hX:rd_T65 l k=X at *;have hany:l.any p=true:=by
     rw[List.any_eq_true];refine⟨X,?_,hpx⟩;rw[<- hX];unfold rd_T65;simp[c]
    have HANY:=Hd hany;clear hX hpx hany
    go_wp2_with ((with_reducible refine (P.out _).mono ?_);rintro e w' ⟨rfl,hb⟩)
    go_ret;exact⟨⟨k,rfl,by rw[HANY.out];simp⟩,HB.out.trans (hb.mono HB.out.size)⟩
  ·obtain rfl:k=l.length:=by omega
   have hany:l.any p=false:=by
    rw[List.any_eq_false];intro x hx;have:=HN.out x (by rw[List.take_length];exact hx);simp[this]
   have HANY:=Hd hany;clear hany;go_wp2;go_ret;exact⟨⟨-1,rfl,by rw[HANY.out];rfl⟩,HB.out⟩
theorem row_May_any (A0:Option Addr) (c0:Nat) (l:List S65) (w:World) (hr0:Kd.C k65 w A0 l.length l) :
  Calls Tryz.prog 77 #[.slice A0 l.length c0] w fun e w'=>e = .returned (.bool (rowMay l))/\Below w.heap.size w w':=by
 by_cases c:l.length<=8
 ·have hv:rowMay l = !(l.any fun v => !(thOf v.f0 v.f1 v.f2).isSome):=by
   unfold rowMay;rw[DET c];simp[List.all_eq_not_any_not]
  have C:=Hd fun w (hr:Kd.C k65 w A0 l.length l)=>row_IndexFunc (fun v => !(thOf v.f0 v.f1 v.f2).isSome) 117 row_May_fn (enters_of Tryz.func117 zq17 rfl) A0 c0 l w hr zq4
  have HR:=Aside0.mk hr0;rw[hv];clear hv hr0;generalize (l.any fun v => !(thOf v.f0 v.f1 v.f2).isSome)=b at *;go_enter Tryz.func77,Tryz.ntmps77
  go_wp2_with (first
   | (go_at_call 116;go_in)
   | (go_at_call 141;((with_reducible refine (C.out _ HR.out).mono ?_);rintro e w' ⟨⟨r,rfl,hr⟩,hb⟩;have HRR:=Hd hr;clear hr)))
  go_ret;exact⟨by rw[<- HRR.out];rfl,hb⟩
 ·have hv:rowMay l=false:=by
   unfold rowMay;rw[DEF c]
   rfl
  rw[hv];clear hv hr0;go_enter Tryz.func77,Tryz.ntmps77
  go_wp2_with fail
  go_ret;exact⟨rfl,Below.refl _ _⟩
def row_May.f (l0:List (S65)):Option (Bool):=some (rowMay l0)
theorem row_May.calls (A0:Option Addr) (c0:Nat) (l0:List (S65)) (r:Bool) (w:World) (hr0:Kd.C k65 w A0 l0.length l0) (hc0:l0.length<=c0) (h:row_May.f l0=some r) :
  Calls Tryz.prog 77 #[.slice A0 l0.length c0] w fun e w'=>e = .returned (.bool r)/\Below w.heap.size w w':=by
 obtain rfl:rowMay l0=r:=OSI h;exact row_May_any A0 c0 l0 w hr0
def num_size.f (a0:Int):Option (Int × Bool):=if a0<0 then (some (IntKind.u64.wrap (-(IntKind.u64.wrap (a0))),true)) else (some (IntKind.u64.wrap (a0),false))
theorem num_size.calls (a0:Int) (r1:Int) (r2:Bool) (w:World) (h:num_size.f a0=some (r1,r2)) :
  Calls Tryz.prog 160 #[.int .i64 a0] w fun e w'=>e = .returned (.tuple #[.int .u64 r1,.bool r2])/\Drawn0 w w':=by
 have H:(if a0<0 then (some (IntKind.u64.wrap (-(IntKind.u64.wrap (a0))),true)) else (some (IntKind.u64.wrap (a0),false)))=some (r1,r2):=h;clear h
 by_cases c2:a0<0
 ·rw[if_pos c2] at H
  have c2b0:decide (a0<0)=true:=DET c2;clear c2;simp only[Option.some.injEq,Prod.mk.injEq] at H;obtain⟨rfl,rfl⟩:=H;go_enter Tryz.func160,Tryz.ntmps160;go_wp2;go_ret2;exact⟨zq3,zq5⟩
 ·rw[if_neg c2] at H
  have c2b0:decide (a0<0)=false:=DEF c2;clear c2;simp only[Option.some.injEq,Prod.mk.injEq] at H;obtain⟨rfl,rfl⟩:=H;go_enter Tryz.func160,Tryz.ntmps160;go_wp2;go_ret2;exact⟨zq3,zq5⟩
attribute [local go_sem] max2_int min2_int max_two min_two max_three min_three max_four min_four
def num_signed.j0:Nat->Int->Bool->Bool->Option (Int × Int)
 | 0,_,_,_=>none
 | k+1,x0,x1,x6=>if x6=true then (some (wrap64 (IntKind.u64.wrap (-x0)),0)) else (if x1=true then (some (0,10)) else (if x0<=9223372036854775807 then (some (wrap64 (x0),0)) else (some (0,10))))
def num_signed.f (k:Nat) (a0:Int) (a1:Bool):Option (Int × Int):=if a1=true then (num_signed.j0 k a0 a1 (decide (a0<=9223372036854775808))) else (num_signed.j0 k a0 a1 false)
theorem num_signed.calls (k:Nat) (a0:Int) (a1:Bool) (r1:Int) (r2:Int) (w:World) (h:num_signed.f k a0 a1=some (r1,r2)) :
  Calls Tryz.prog 161 #[.int .u64 a0,.bool a1] w fun e w'=>e = .returned (.tuple #[.int .i64 r1,.int .i64 r2])/\Drawn0 w w':=by
 have H:(if a1=true then (num_signed.j0 k a0 a1 (decide (a0<=9223372036854775808))) else (num_signed.j0 k a0 a1 false))=some (r1,r2):=h;clear h;have HC3:=Aside0.mk H;clear H;go_enter Tryz.func161,Tryz.ntmps161
 go_upto_region 1 with (fail)
 go_cut [6] (fun v6 wc=>∃ (kq:Nat) (x6_2:Bool),v6 = .bool x6_2/\Aside0 (num_signed.j0 kq a0 a1 x6_2=some (r1,r2))/\Aside0 (kq<=k)/\Drawn0 w wc)
 case first =>
  have H:=HC3.out;clear HC3
  by_cases c4:a1=true
  ·subst c4
   have H1:(num_signed.j0 k a0 true (decide (a0<=9223372036854775808)))=some (r1,r2):=by rw[if_pos rfl] at H;exact H
   clear H;have H:=H1;clear H1;have H':=Aside0.mk H;clear H;go_wp2
   go_meet
   case rel=>exact⟨_,(decide (a0<=9223372036854775808)),zq3,H',⟨zq32⟩,zq5⟩
  ·replace c4:=Bool.eq_false_iff.mpr c4
   subst c4;have H1:(num_signed.j0 k a0 false false)=some (r1,r2):=by rw[if_neg (show ¬ (false=true) by decide)] at H;exact H
   clear H;have H:=H1;clear H1;have H':=Aside0.mk H;clear H;go_wp2
   go_meet
   case rel=>exact⟨_,(false),zq3,H',⟨zq32⟩,zq5⟩
 case rest =>
  clear HC3
  try clear c1
  try clear p2
  try clear c4
  obtain⟨kq,x6_2,rfl,HA,HJ2,⟨mc2,rfl⟩⟩:=hcut;cases kq with
  | zero=>exact absurd HA.out (by simp[num_signed.j0])
  | succ kj2 =>
   have H:=HA.out;clear HA;simp only[num_signed.j0] at H
   by_cases c5:x6_2=true
   ·subst c5
    have H1:(some (wrap64 (IntKind.u64.wrap (-a0)),0))=some (r1,r2):=by rw[if_pos rfl] at H;exact H
    clear H;have H:=H1;clear H1;simp only[Option.some.injEq,Prod.mk.injEq] at H;obtain⟨rfl,rfl⟩:=H;go_wp2;go_ret2;exact⟨zq3,zq5⟩
   ·replace c5:=Bool.eq_false_iff.mpr c5
    subst c5;have H1:(if a1=true then (some (0,10)) else (if a0<=9223372036854775807 then (some (wrap64 (a0),0)) else (some (0,10))))=some (r1,r2):=by rw[if_neg (show ¬ (false=true) by decide)] at H;exact H
    clear H;have H:=H1;clear H1
    by_cases c6:a1=true
    ·subst c6
     have H1:(some (0,10))=some (r1,r2):=by rw[if_pos rfl] at H;exact H
     clear H;have H:=H1;clear H1;simp only[Option.some.injEq,Prod.mk.injEq] at H;obtain⟨rfl,rfl⟩:=H;go_wp2;go_ret2;exact⟨zq3,zq5⟩
    ·replace c6:=Bool.eq_false_iff.mpr c6
     subst c6;have H1:(if a0<=9223372036854775807 then (some (wrap64 (a0),0)) else (some (0,10)))=some (r1,r2):=by rw[if_neg (show ¬ (false=true) by decide)] at H;exact H
     clear H;have H:=H1;clear H1
     by_cases c7:a0<=9223372036854775807
     ·rw[if_pos c7] at H
      have c7b0:decide (a0<=9223372036854775807)=true:=DET c7;clear c7;simp only[Option.some.injEq,Prod.mk.injEq] at H;obtain⟨rfl,rfl⟩:=H;go_wp2;go_ret2;exact⟨zq3,zq5⟩
     ·rw[if_neg c7] at H
      have c7b0:decide (a0<=9223372036854775807)=false:=DEF c7;clear c7;simp only[Option.some.injEq,Prod.mk.injEq] at H;obtain⟨rfl,rfl⟩:=H;go_wp2;go_ret2;exact⟨zq3,zq5⟩
def num_Neg.f (k:Nat) (a0:Int):Option (Int × Int):=(num_size.f a0).bind fun bt108=>((num_signed.f k bt108.1 (!bt108.2)).bind fun bt110=>(some (bt110.1,bt110.2)))
theorem num_Neg.calls (k:Nat) (a0:Int) (r1:Int) (r2:Int) (w:World) (h:num_Neg.f k a0=some (r1,r2)) :
  Calls Tryz.prog 135 #[.int .i64 a0] w fun e w'=>e = .returned (.tuple #[.int .i64 r1,.int .i64 r2])/\Drawn0 w w':=by
 have H:((num_size.f a0).bind fun bt108=>((num_signed.f k bt108.1 (!bt108.2)).bind fun bt110=>(some (bt110.1,bt110.2))))=some (r1,r2):=h;clear h;replace H:=Option.bind_eq_some_iff.mp H;obtain⟨⟨t108,t109⟩,A20,H⟩:=H;replace H:((num_signed.f k t108 (!t109)).bind fun bt110=>(some (bt110.1,bt110.2)))=some (r1,r2):=H;have A2:=Aside0.mk A20;clear A20;replace H:=Option.bind_eq_some_iff.mp H;obtain⟨⟨t110,t111⟩,A30,H⟩:=H;replace H:(some (t110,t111))=some (r1,r2):=H;have A3:=Aside0.mk A30;clear A30;simp only[Option.some.injEq,Prod.mk.injEq] at H;obtain⟨rfl,rfl⟩:=H;go_enter Tryz.func135,Tryz.ntmps135
 go_wp2_with (first | (refine gZ 8 Tryz.func160 #[.int .i64 a0] ?_;(with_reducible refine (num_size.calls a0 t108 t109 _ A2.out).mono ?_);rintro e w' ⟨rfl,⟨nd,rfl⟩⟩;refine⟨_,rfl,?_⟩) | (refine gZ 14 Tryz.func161 #[.int .u64 t108,.bool (!t109)] ?_;(with_reducible refine (num_signed.calls k t108 (!t109) t110 t111 _ A3.out).mono ?_);rintro e w' ⟨rfl,⟨nd,rfl⟩⟩;refine⟨_,rfl,?_⟩))
 go_ret2;exact⟨zq3,zq5⟩
theorem g_bcell {W w1:World} (hb:Below W.heap.size W w1):(∀ b o,b<W.heap.size->w1.cell? ⟨b,o,none⟩=W.cell? ⟨b,o,none⟩)/\(∀ b o,b<W.heap.size->w1.frozen? ⟨b,o,none⟩=W.frozen? ⟨b,o,none⟩) :=
 ⟨fun b o h=>hb.cell (p:=⟨b,o,none⟩) h,fun b o h=>hb.frozen (p:=⟨b,o,none⟩) h⟩
theorem g_bel {a b c:World} (h:Below a.heap.size a b) (k:Below b.heap.size b c):Below a.heap.size a c:=h.trans (k.mono h.size)
def thCmp:Option Th->Option Th->Int
 | some (.num n),some (.num m)=>if n<m then -1 else if n > m then 1 else 0
 | some (.num _),some (.txt _) => -1
 | some (.txt _),some (.num _)=>1
 | some (.txt s),some (.txt t)=>Lib.compareBytes s.data.toList t.data.toList
 | _,_=>0
theorem str_Compare_calls (a b:ByteArray) (w:World) :
  Calls Tryz.prog 165 #[.string a,.string b] w fun e w'=>e = .returned (.int .i64 (Lib.compareBytes a.data.toList b.data.toList))/\w'=w:=by
 have cs:∀ (a b:ByteArray) (W:World),(callFunc 191 #[.string a,.string b]).run Tryz.prog W = .ok (.value (.int .i64 (Lib.compareBytes a.data.toList b.data.toList))) W:=fun a b W=>by
  rw[run_callFunc_extern Tryz.func191 zq17 zq17 zq17 (e:=Extern.BytealgCompare.compare) zq17,Lib.run_compareString]
  rfl
 go_enter Tryz.func165,Tryz.ntmps165;go_wp2;go_ret;exact⟨rfl,rfl⟩
def value_Compare.f (a0_0:Int) (a0_1:Int) (a0_2:ByteArray) (a1_0:Int) (a1_1:Int) (a1_2:ByteArray):Option (Int):=some (thCmp (thOf a0_0 a0_1 a0_2) (thOf a1_0 a1_1 a1_2))
theorem value_Compare.calls (a0_0:Int) (a0_1:Int) (a0_2:ByteArray) (a1_0:Int) (a1_1:Int) (a1_2:ByteArray) (r:Int) (w:World) (h:value_Compare.f a0_0 a0_1 a0_2 a1_0 a1_1 a1_2=some r) :
  Calls Tryz.prog 144 #[.agg #[.int .i64 a0_0,.int .i64 a0_1,.string a0_2],.agg #[.int .i64 a1_0,.int .i64 a1_1,.string a1_2]] w fun e w'=>e = .returned (.int .i64 r)/\Below w.heap.size w w':=by
 obtain rfl:thCmp (thOf a0_0 a0_1 a0_2) (thOf a1_0 a1_1 a1_2)=r:=OSI h;clear h;have CA:=Hd fun w=>value_of_calls a0_0 a0_1 a0_2 w
 have CB:=Hd fun w=>value_of_calls a1_0 a1_1 a1_2 w
 have t1:∀ (v:Value) (W:World),(Instr.typeAssert (.iface 178 v) 165 178 true).run Tryz.prog W = .ok (.tuple #[v,.bool true]) W:=fun v W=>by rfl
 have t2:∀ (v:Value) (W:World),(Instr.typeAssert (.iface 182 v) 165 178 true).run Tryz.prog W = .ok (.tuple #[.int .i64 0,.bool false]) W:=fun v W=>by rfl
 have t3:∀ (v:Value) (W:World),(Instr.typeAssert (.iface 182 v) 165 182 false).run Tryz.prog W = .ok v W:=fun v W=>by rfl
 generalize thOf a0_0 a0_1 a0_2=x at *;generalize thOf a1_0 a1_1 a1_2=y at *;have fin:∀ w1 w2 (o1 o2:Obj),Below ((w.alloc o1).alloc o2).heap.size ((w.alloc o1).alloc o2) w1->Below w1.heap.size w1 w2->Below w.heap.size w w2:=fun w1 w2 o1 o2 h1 h2 =>
  g_bel (((Below.refl _ _).alloc (Nat.le_refl _) o1).alloc zq30 o2) (g_bel h1 h2)
 have FIN:=Hd fin;clear fin
 rcases x with _ | (n | s) <;> rcases y with _ | (m | t)
 all_goals simp only[thCmp]
 all_goals simp only[thVal,Option.isSome_some,Option.isSome_none] at CA CB
 case some.num.some.num =>
  by_cases c1:n<m
  ·rw[if_pos c1]
   go_enter Tryz.func144,Tryz.ntmps144
   go_wp2_with (first
    | (go_at_call 154;((with_reducible refine (CA.out _).mono ?_);rintro e w1 ⟨rfl,hb⟩;obtain⟨hc1,hf1⟩:=g_bcell hb;have HB:=Hd hb;clear hb))
    | (go_at_call 154;((with_reducible refine (CB.out _).mono ?_);rintro e w2 ⟨rfl,hd⟩;have HD:=Hd hd;clear hd))
    | (go_at_call 164;go_in)
    | (go_at_call 185;go_in))
   all_goals (go_ret;exact⟨rfl,FIN.out _ _ _ _ HB.out HD.out⟩)
  ·rw[if_neg c1]
   by_cases c2:n > m
   ·rw[if_pos c2]
    go_enter Tryz.func144,Tryz.ntmps144
    go_wp2_with (first
     | (go_at_call 154;((with_reducible refine (CA.out _).mono ?_);rintro e w1 ⟨rfl,hb⟩;obtain⟨hc1,hf1⟩:=g_bcell hb;have HB:=Hd hb;clear hb))
     | (go_at_call 154;((with_reducible refine (CB.out _).mono ?_);rintro e w2 ⟨rfl,hd⟩;have HD:=Hd hd;clear hd))
     | (go_at_call 164;go_in)
     | (go_at_call 185;go_in))
    all_goals (go_ret;exact⟨rfl,FIN.out _ _ _ _ HB.out HD.out⟩)
   ·rw[if_neg c2]
    go_enter Tryz.func144,Tryz.ntmps144
    go_wp2_with (first
     | (go_at_call 154;((with_reducible refine (CA.out _).mono ?_);rintro e w1 ⟨rfl,hb⟩;obtain⟨hc1,hf1⟩:=g_bcell hb;have HB:=Hd hb;clear hb))
     | (go_at_call 154;((with_reducible refine (CB.out _).mono ?_);rintro e w2 ⟨rfl,hd⟩;have HD:=Hd hd;clear hd))
     | (go_at_call 164;go_in)
     | (go_at_call 185;go_in))
    all_goals (go_ret;exact⟨rfl,FIN.out _ _ _ _ HB.out HD.out⟩)
 case some.txt.some.txt =>
  go_enter Tryz.func144,Tryz.ntmps144
  go_wp2_with (first
   | (go_at_call 154;((with_reducible refine (CA.out _).mono ?_);rintro e w1 ⟨rfl,hb⟩;obtain⟨hc1,hf1⟩:=g_bcell hb;have HB:=Hd hb;clear hb))
   | (go_at_call 154;((with_reducible refine (CB.out _).mono ?_);rintro e w2 ⟨rfl,hd⟩;have HD:=Hd hd;clear hd)))
  go_quiet ((go_at_call 165;exact Calls.quiet_of_same (str_Compare_calls _ _ _)))
  all_goals go_wp2
  all_goals (go_ret;exact⟨rfl,FIN.out _ _ _ _ HB.out (pw_below_drewN HD.out _)⟩)
 all_goals
  go_enter Tryz.func144,Tryz.ntmps144
  go_wp2_with (first
   | (go_at_call 154;((with_reducible refine (CA.out _).mono ?_);rintro e w1 ⟨rfl,hb⟩;obtain⟨hc1,hf1⟩:=g_bcell hb;have HB:=Hd hb;clear hb))
   | (go_at_call 154;((with_reducible refine (CB.out _).mono ?_);rintro e w2 ⟨rfl,hd⟩;have HD:=Hd hd;clear hd))
   | fail)
  all_goals (go_ret;exact⟨rfl,FIN.out _ _ _ _ HB.out HD.out⟩)
def num_Add.f (a0:Int) (a1:Int):Option (Int × Int):=if ((decide ((wrap64 (a0+a1))<a0)) != (decide (a1<0)))=true then (some (0,10)) else (some (wrap64 (a0+a1),0))
theorem num_Add.calls (a0:Int) (a1:Int) (r1:Int) (r2:Int) (w:World) (h:num_Add.f a0 a1=some (r1,r2)) :
  Calls Tryz.prog 180 #[.int .i64 a0,.int .i64 a1] w fun e w'=>e = .returned (.tuple #[.int .i64 r1,.int .i64 r2])/\Drawn0 w w':=by
 have H:(if ((decide ((wrap64 (a0+a1))<a0)) != (decide (a1<0)))=true then (some (0,10)) else (some (wrap64 (a0+a1),0)))=some (r1,r2):=h;clear h
 by_cases c3:((decide ((wrap64 (a0+a1))<a0)) != (decide (a1<0)))=true
 ·rw[if_pos c3] at H
  have c3b0:((decide ((wrap64 (a0+a1))<a0)) != (decide (a1<0)))=true:=c3
  (try (have c3b1:decide ((decide ((wrap64 (a0+a1))<a0))=(decide (a1<0)))=false:=by simpa using c3))
  (try (have c3b2:((decide ((wrap64 (a0+a1))<a0)) == (decide (a1<0)))=false:=by simpa using c3))
  (try (have c3b3:¬ ((decide ((wrap64 (a0+a1))<a0))=(decide (a1<0))):=by simpa using c3))
  clear c3;simp only[Option.some.injEq,Prod.mk.injEq] at H;obtain⟨rfl,rfl⟩:=H;go_enter Tryz.func180,Tryz.ntmps180;go_wp2;go_ret2;exact⟨zq3,zq5⟩
 ·rw[if_neg c3] at H
  have c3b0:((decide ((wrap64 (a0+a1))<a0)) != (decide (a1<0)))=false:=by simpa using c3
  (try (have c3b1:decide ((decide ((wrap64 (a0+a1))<a0))=(decide (a1<0)))=true:=by simpa using c3))
  (try (have c3b2:((decide ((wrap64 (a0+a1))<a0)) == (decide (a1<0)))=true:=by simpa using c3))
  clear c3;simp only[Option.some.injEq,Prod.mk.injEq] at H;obtain⟨rfl,rfl⟩:=H;go_enter Tryz.func180,Tryz.ntmps180;go_wp2;go_ret2;exact⟨zq3,zq5⟩
def num_Sub.f (a0:Int) (a1:Int):Option (Int × Int):=if ((decide ((wrap64 (a0 - a1)) > a0)) != (decide (a1<0)))=true then (some (0,10)) else (some (wrap64 (a0 - a1),0))
theorem num_Sub.calls (a0:Int) (a1:Int) (r1:Int) (r2:Int) (w:World) (h:num_Sub.f a0 a1=some (r1,r2)) :
  Calls Tryz.prog 181 #[.int .i64 a0,.int .i64 a1] w fun e w'=>e = .returned (.tuple #[.int .i64 r1,.int .i64 r2])/\Drawn0 w w':=by
 have H:(if ((decide ((wrap64 (a0 - a1)) > a0)) != (decide (a1<0)))=true then (some (0,10)) else (some (wrap64 (a0 - a1),0)))=some (r1,r2):=h;clear h
 by_cases c3:((decide ((wrap64 (a0 - a1)) > a0)) != (decide (a1<0)))=true
 ·rw[if_pos c3] at H
  have c3b0:((decide ((wrap64 (a0 - a1)) > a0)) != (decide (a1<0)))=true:=c3
  (try (have c3b1:decide ((decide ((wrap64 (a0 - a1)) > a0))=(decide (a1<0)))=false:=by simpa using c3))
  (try (have c3b2:((decide ((wrap64 (a0 - a1)) > a0)) == (decide (a1<0)))=false:=by simpa using c3))
  (try (have c3b3:¬ ((decide ((wrap64 (a0 - a1)) > a0))=(decide (a1<0))):=by simpa using c3))
  clear c3;simp only[Option.some.injEq,Prod.mk.injEq] at H;obtain⟨rfl,rfl⟩:=H;go_enter Tryz.func181,Tryz.ntmps181;go_wp2;go_ret2;exact⟨zq3,zq5⟩
 ·rw[if_neg c3] at H
  have c3b0:((decide ((wrap64 (a0 - a1)) > a0)) != (decide (a1<0)))=false:=by simpa using c3
  (try (have c3b1:decide ((decide ((wrap64 (a0 - a1)) > a0))=(decide (a1<0)))=true:=by simpa using c3))
  (try (have c3b2:((decide ((wrap64 (a0 - a1)) > a0)) == (decide (a1<0)))=true:=by simpa using c3))
  clear c3;simp only[Option.some.injEq,Prod.mk.injEq] at H;obtain⟨rfl,rfl⟩:=H;go_enter Tryz.func181,Tryz.ntmps181;go_wp2;go_ret2;exact⟨zq3,zq5⟩
def bits_Mul64.f (a0:Int) (a1:Int):Option (Int × Int):=some (IntKind.u64.wrap ((IntKind.u64.wrap ((IntKind.u64.wrap ((a0 / 4294967296)*(a1 / 4294967296)))+((IntKind.u64.wrap ((IntKind.u64.wrap ((a0 / 4294967296)*(Go.bits .and .u64 a1 4294967295)))+((IntKind.u64.wrap ((Go.bits .and .u64 a0 4294967295)*(Go.bits .and .u64 a1 4294967295))) / 4294967296))) / 4294967296)))+((IntKind.u64.wrap ((Go.bits .and .u64 (IntKind.u64.wrap ((IntKind.u64.wrap ((a0 / 4294967296)*(Go.bits .and .u64 a1 4294967295)))+((IntKind.u64.wrap ((Go.bits .and .u64 a0 4294967295)*(Go.bits .and .u64 a1 4294967295))) / 4294967296))) 4294967295)+(IntKind.u64.wrap ((Go.bits .and .u64 a0 4294967295)*(a1 / 4294967296))))) / 4294967296)),IntKind.u64.wrap (a0*a1))
theorem bits_Mul64.calls (a0:Int) (a1:Int) (r1:Int) (r2:Int) (w:World) (h:bits_Mul64.f a0 a1=some (r1,r2)) :
  Calls Tryz.prog 190 #[.int .u64 a0,.int .u64 a1] w fun e w'=>e = .returned (.tuple #[.int .u64 r1,.int .u64 r2])/\Drawn0 w w':=by
 have H:(some (IntKind.u64.wrap ((IntKind.u64.wrap ((IntKind.u64.wrap ((a0 / 4294967296)*(a1 / 4294967296)))+((IntKind.u64.wrap ((IntKind.u64.wrap ((a0 / 4294967296)*(Go.bits .and .u64 a1 4294967295)))+((IntKind.u64.wrap ((Go.bits .and .u64 a0 4294967295)*(Go.bits .and .u64 a1 4294967295))) / 4294967296))) / 4294967296)))+((IntKind.u64.wrap ((Go.bits .and .u64 (IntKind.u64.wrap ((IntKind.u64.wrap ((a0 / 4294967296)*(Go.bits .and .u64 a1 4294967295)))+((IntKind.u64.wrap ((Go.bits .and .u64 a0 4294967295)*(Go.bits .and .u64 a1 4294967295))) / 4294967296))) 4294967295)+(IntKind.u64.wrap ((Go.bits .and .u64 a0 4294967295)*(a1 / 4294967296))))) / 4294967296)),IntKind.u64.wrap (a0*a1)))=some (r1,r2):=h;clear h;simp only[Option.some.injEq,Prod.mk.injEq] at H;obtain⟨rfl,rfl⟩:=H;go_enter Tryz.func190,Tryz.ntmps190;go_wp2;go_ret2;exact⟨zq3,zq5⟩
def num_Mul.f (k:Nat) (a0:Int) (a1:Int):Option (Int × Int):=(num_size.f a0).bind fun bt112=>((num_size.f a1).bind fun bt114=>((bits_Mul64.f bt112.1 bt114.1).bind fun bt116=>(if bt116.1=0 then ((num_signed.f k bt116.2 (bt112.2 != bt114.2)).bind fun bt118=>(some (bt118.1,bt118.2))) else (some (0,10)))))
theorem num_Mul.calls (k:Nat) (a0:Int) (a1:Int) (r1:Int) (r2:Int) (w:World) (h:num_Mul.f k a0 a1=some (r1,r2)) :
  Calls Tryz.prog 182 #[.int .i64 a0,.int .i64 a1] w fun e w'=>e = .returned (.tuple #[.int .i64 r1,.int .i64 r2])/\Drawn0 w w':=by
 have H:((num_size.f a0).bind fun bt112=>((num_size.f a1).bind fun bt114=>((bits_Mul64.f bt112.1 bt114.1).bind fun bt116=>(if bt116.1=0 then ((num_signed.f k bt116.2 (bt112.2 != bt114.2)).bind fun bt118=>(some (bt118.1,bt118.2))) else (some (0,10))))))=some (r1,r2):=h;clear h;replace H:=Option.bind_eq_some_iff.mp H;obtain⟨⟨t112,t113⟩,A30,H⟩:=H;replace H:((num_size.f a1).bind fun bt114=>((bits_Mul64.f t112 bt114.1).bind fun bt116=>(if bt116.1=0 then ((num_signed.f k bt116.2 (t113 != bt114.2)).bind fun bt118=>(some (bt118.1,bt118.2))) else (some (0,10)))))=some (r1,r2):=H;have A3:=Aside0.mk A30;clear A30;replace H:=Option.bind_eq_some_iff.mp H;obtain⟨⟨t114,t115⟩,A40,H⟩:=H;replace H:((bits_Mul64.f t112 t114).bind fun bt116=>(if bt116.1=0 then ((num_signed.f k bt116.2 (t113 != t115)).bind fun bt118=>(some (bt118.1,bt118.2))) else (some (0,10))))=some (r1,r2):=H;have A4:=Aside0.mk A40;clear A40;replace H:=Option.bind_eq_some_iff.mp H;obtain⟨⟨t116,t117⟩,A50,H⟩:=H;replace H:(if t116=0 then ((num_signed.f k t117 (t113 != t115)).bind fun bt118=>(some (bt118.1,bt118.2))) else (some (0,10)))=some (r1,r2):=H;have A5:=Aside0.mk A50;clear A50
 by_cases c6:t116=0
 ·rw[if_pos c6] at H
  have c6b0:(t116 == 0)=true:=beq_iff_eq.mpr c6;have c6b1:(t116 != 0)=false:=bne_eq_false_iff_eq.mpr c6;clear c6;replace H:=Option.bind_eq_some_iff.mp H;obtain⟨⟨t118,t119⟩,A70,H⟩:=H;replace H:(some (t118,t119))=some (r1,r2):=H;have A7:=Aside0.mk A70;clear A70;simp only[Option.some.injEq,Prod.mk.injEq] at H;obtain⟨rfl,rfl⟩:=H;go_enter Tryz.func182,Tryz.ntmps182
  go_wp2_with (first | (refine gZ 14 Tryz.func160 #[.int .i64 a0] ?_;(with_reducible refine (num_size.calls a0 t112 t113 _ A3.out).mono ?_);rintro e w' ⟨rfl,⟨nd,rfl⟩⟩;refine⟨_,rfl,?_⟩) | (refine gZ 19 Tryz.func160 #[.int .i64 a1] ?_;(with_reducible refine (num_size.calls a1 t114 t115 _ A4.out).mono ?_);rintro e w' ⟨rfl,⟨nd,rfl⟩⟩;refine⟨_,rfl,?_⟩) | (refine gZ 25 Tryz.func190 #[.int .u64 t112,.int .u64 t114] ?_;(with_reducible refine (bits_Mul64.calls t112 t114 t116 t117 _ A5.out).mono ?_);rintro e w' ⟨rfl,⟨nd,rfl⟩⟩;refine⟨_,rfl,?_⟩) | (refine gZ 34 Tryz.func161 #[.int .u64 t117,.bool (t113 != t115)] ?_;(with_reducible refine (num_signed.calls k t117 (t113 != t115) t118 t119 _ A7.out).mono ?_);rintro e w' ⟨rfl,⟨nd,rfl⟩⟩;refine⟨_,rfl,?_⟩))
  go_ret2;exact⟨zq3,zq5⟩
 ·rw[if_neg c6] at H
  have c6b0:(t116 == 0)=false:=BNM c6;have c6b1:(t116 != 0)=true:=bne_iff_ne.mpr c6;simp only[Option.some.injEq,Prod.mk.injEq] at H;obtain⟨rfl,rfl⟩:=H;go_enter Tryz.func182,Tryz.ntmps182
  go_wp2_with (first | (refine gZ 14 Tryz.func160 #[.int .i64 a0] ?_;(with_reducible refine (num_size.calls a0 t112 t113 _ A3.out).mono ?_);rintro e w' ⟨rfl,⟨nd,rfl⟩⟩;refine⟨_,rfl,?_⟩) | (refine gZ 19 Tryz.func160 #[.int .i64 a1] ?_;(with_reducible refine (num_size.calls a1 t114 t115 _ A4.out).mono ?_);rintro e w' ⟨rfl,⟨nd,rfl⟩⟩;refine⟨_,rfl,?_⟩) | (refine gZ 25 Tryz.func190 #[.int .u64 t112,.int .u64 t114] ?_;(with_reducible refine (bits_Mul64.calls t112 t114 t116 t117 _ A5.out).mono ?_);rintro e w' ⟨rfl,⟨nd,rfl⟩⟩;refine⟨_,rfl,?_⟩))
  go_ret2;exact⟨zq3,zq5⟩
def num_Quo.f (k:Nat) (a0:Int) (a1:Int):Option (Int × Int):=if a1=0 then (some (0,11)) else ((num_size.f a0).bind fun bt120=>((num_size.f a1).bind fun bt122=>(if bt122.1=0 then (none) else ((num_signed.f k (IntKind.u64.wrap (Int.tdiv bt120.1 bt122.1)) (bt120.2 != bt122.2)).bind fun bt124=>(some (bt124.1,bt124.2))))))
theorem num_Quo.calls (k:Nat) (a0:Int) (a1:Int) (r1:Int) (r2:Int) (w:World) (h:num_Quo.f k a0 a1=some (r1,r2)) :
  Calls Tryz.prog 183 #[.int .i64 a0,.int .i64 a1] w fun e w'=>e = .returned (.tuple #[.int .i64 r1,.int .i64 r2])/\Drawn0 w w':=by
 have H:(if a1=0 then (some (0,11)) else ((num_size.f a0).bind fun bt120=>((num_size.f a1).bind fun bt122=>(if bt122.1=0 then (none) else ((num_signed.f k (IntKind.u64.wrap (Int.tdiv bt120.1 bt122.1)) (bt120.2 != bt122.2)).bind fun bt124=>(some (bt124.1,bt124.2)))))))=some (r1,r2):=h;clear h
 by_cases c3:a1=0
 ·rw[if_pos c3] at H
  have c3b0:(a1 == 0)=true:=beq_iff_eq.mpr c3;have c3b1:(a1 != 0)=false:=bne_eq_false_iff_eq.mpr c3;clear c3;simp only[Option.some.injEq,Prod.mk.injEq] at H;obtain⟨rfl,rfl⟩:=H;go_enter Tryz.func183,Tryz.ntmps183;go_wp2;go_ret2;exact⟨zq3,zq5⟩
 ·rw[if_neg c3] at H
  have c3b0:(a1 == 0)=false:=BNM c3;have c3b1:(a1 != 0)=true:=bne_iff_ne.mpr c3;replace H:=Option.bind_eq_some_iff.mp H;obtain⟨⟨t120,t121⟩,A40,H⟩:=H;replace H:((num_size.f a1).bind fun bt122=>(if bt122.1=0 then (none) else ((num_signed.f k (IntKind.u64.wrap (Int.tdiv t120 bt122.1)) (t121 != bt122.2)).bind fun bt124=>(some (bt124.1,bt124.2)))))=some (r1,r2):=H;have A4:=Aside0.mk A40;clear A40;replace H:=Option.bind_eq_some_iff.mp H;obtain⟨⟨t122,t123⟩,A50,H⟩:=H;replace H:(if t122=0 then (none) else ((num_signed.f k (IntKind.u64.wrap (Int.tdiv t120 t122)) (t121 != t123)).bind fun bt124=>(some (bt124.1,bt124.2))))=some (r1,r2):=H;have A5:=Aside0.mk A50;clear A50
  by_cases c6:t122=0
  ·rw[if_pos c6] at H
   exact absurd H zq30
  ·rw[if_neg c6] at H
   have c6b0:(t122 == 0)=false:=BNM c6;have c6b1:(t122 != 0)=true:=bne_iff_ne.mpr c6;replace H:=Option.bind_eq_some_iff.mp H;obtain⟨⟨t124,t125⟩,A70,H⟩:=H;replace H:(some (t124,t125))=some (r1,r2):=H;have A7:=Aside0.mk A70;clear A70;simp only[Option.some.injEq,Prod.mk.injEq] at H;obtain⟨rfl,rfl⟩:=H;go_enter Tryz.func183,Tryz.ntmps183
   go_wp2_with (first | (refine gZ 14 Tryz.func160 #[.int .i64 a0] ?_;(with_reducible refine (num_size.calls a0 t120 t121 _ A4.out).mono ?_);rintro e w' ⟨rfl,⟨nd,rfl⟩⟩;refine⟨_,rfl,?_⟩) | (refine gZ 19 Tryz.func160 #[.int .i64 a1] ?_;(with_reducible refine (num_size.calls a1 t122 t123 _ A5.out).mono ?_);rintro e w' ⟨rfl,⟨nd,rfl⟩⟩;refine⟨_,rfl,?_⟩) | (refine gZ 28 Tryz.func161 #[.int .u64 (IntKind.u64.wrap (Int.tdiv t120 t122)),.bool (t121 != t123)] ?_;(with_reducible refine (num_signed.calls k (IntKind.u64.wrap (Int.tdiv t120 t122)) (t121 != t123) t124 t125 _ A7.out).mono ?_);rintro e w' ⟨rfl,⟨nd,rfl⟩⟩;refine⟨_,rfl,?_⟩))
   go_ret2;exact⟨zq3,zq5⟩
def num_Rem.f (k:Nat) (a0:Int) (a1:Int):Option (Int × Int):=if a1=0 then (some (0,11)) else ((num_size.f a0).bind fun bt126=>((num_size.f a1).bind fun bt128=>(if bt128.1=0 then (none) else ((num_signed.f k (Int.tmod bt126.1 bt128.1) bt126.2).bind fun bt130=>(some (bt130.1,bt130.2))))))
theorem num_Rem.calls (k:Nat) (a0:Int) (a1:Int) (r1:Int) (r2:Int) (w:World) (h:num_Rem.f k a0 a1=some (r1,r2)) :
  Calls Tryz.prog 184 #[.int .i64 a0,.int .i64 a1] w fun e w'=>e = .returned (.tuple #[.int .i64 r1,.int .i64 r2])/\Drawn0 w w':=by
 have H:(if a1=0 then (some (0,11)) else ((num_size.f a0).bind fun bt126=>((num_size.f a1).bind fun bt128=>(if bt128.1=0 then (none) else ((num_signed.f k (Int.tmod bt126.1 bt128.1) bt126.2).bind fun bt130=>(some (bt130.1,bt130.2)))))))=some (r1,r2):=h;clear h
 by_cases c3:a1=0
 ·rw[if_pos c3] at H
  have c3b0:(a1 == 0)=true:=beq_iff_eq.mpr c3;have c3b1:(a1 != 0)=false:=bne_eq_false_iff_eq.mpr c3;clear c3;simp only[Option.some.injEq,Prod.mk.injEq] at H;obtain⟨rfl,rfl⟩:=H;go_enter Tryz.func184,Tryz.ntmps184;go_wp2;go_ret2;exact⟨zq3,zq5⟩
 ·rw[if_neg c3] at H
  have c3b0:(a1 == 0)=false:=BNM c3;have c3b1:(a1 != 0)=true:=bne_iff_ne.mpr c3;replace H:=Option.bind_eq_some_iff.mp H;obtain⟨⟨t126,t127⟩,A40,H⟩:=H;replace H:((num_size.f a1).bind fun bt128=>(if bt128.1=0 then (none) else ((num_signed.f k (Int.tmod t126 bt128.1) t127).bind fun bt130=>(some (bt130.1,bt130.2)))))=some (r1,r2):=H;have A4:=Aside0.mk A40;clear A40;replace H:=Option.bind_eq_some_iff.mp H;obtain⟨⟨t128,t129⟩,A50,H⟩:=H;replace H:(if t128=0 then (none) else ((num_signed.f k (Int.tmod t126 t128) t127).bind fun bt130=>(some (bt130.1,bt130.2))))=some (r1,r2):=H;have A5:=Aside0.mk A50;clear A50
  by_cases c6:t128=0
  ·rw[if_pos c6] at H
   exact absurd H zq30
  ·rw[if_neg c6] at H
   have c6b0:(t128 == 0)=false:=BNM c6;have c6b1:(t128 != 0)=true:=bne_iff_ne.mpr c6;replace H:=Option.bind_eq_some_iff.mp H;obtain⟨⟨t130,t131⟩,A70,H⟩:=H;replace H:(some (t130,t131))=some (r1,r2):=H;have A7:=Aside0.mk A70;clear A70;simp only[Option.some.injEq,Prod.mk.injEq] at H;obtain⟨rfl,rfl⟩:=H;go_enter Tryz.func184,Tryz.ntmps184
   go_wp2_with (first | (refine gZ 14 Tryz.func160 #[.int .i64 a0] ?_;(with_reducible refine (num_size.calls a0 t126 t127 _ A4.out).mono ?_);rintro e w' ⟨rfl,⟨nd,rfl⟩⟩;refine⟨_,rfl,?_⟩) | (refine gZ 19 Tryz.func160 #[.int .i64 a1] ?_;(with_reducible refine (num_size.calls a1 t128 t129 _ A5.out).mono ?_);rintro e w' ⟨rfl,⟨nd,rfl⟩⟩;refine⟨_,rfl,?_⟩) | (refine gZ 26 Tryz.func161 #[.int .u64 (Int.tmod t126 t128),.bool t127] ?_;(with_reducible refine (num_signed.calls k (Int.tmod t126 t128) t127 t130 t131 _ A7.out).mono ?_);rintro e w' ⟨rfl,⟨nd,rfl⟩⟩;refine⟨_,rfl,?_⟩))
   go_ret2;exact⟨zq3,zq5⟩
end Go.Proofs.YtmkgecapkeojaaaGreat.PDa
end
