/- Texts of this claim, put together by a program: RunW, Put, InRound, Each, May, Mapped, EdgeA, EdgeB, EdgeC. -/
import Derived.Test.YtmkgecapkeojaaaGreatJ8
import Derived.OrdersIn
set_option linter.unusedVariables false
set_option linter.unusedSimpArgs false
set_option maxHeartbeats 8000000
set_option maxRecDepth 100000
section
namespace Go.Proofs.YtmkgecapkeojaaaGreat.Run
open Go RowKit
theorem YieldAt.wide {m m' l l2:Nat} {P:Program} {args:Array Value} {W:World} {R:Ending->World->Prop} (h:YieldAt Fence.wide m P l args W R):YieldAt (Fence.wide.inRound l2) m' P l args W R:=by
 obtain⟨fn,tmps,assign,body,hy,hr⟩:=h;exact⟨fn,tmps,assign,body,hy,hr.1,fun c cs _=>hr.2 c cs (room_wide _)⟩
def OneC (P:Program) (ty:TypeId):Prop := ∀ w,Sem.run P (isAgg ty) w = .ok false w
theorem oneC_bool {P:Program} {ty:TypeId} (h:P.underlying ty=some .bool):OneC P ty:=fun w=>by simp[isAgg,run_underlying h]
theorem oneC_int {P:Program} {ty:TypeId} {k:IntKind} (h:P.underlying ty=some (.int k)):OneC P ty:=fun w=>by simp[isAgg,run_underlying h]
theorem oneC_slice {P:Program} {ty e:TypeId} (h:P.underlying ty=some (.slice e)):OneC P ty:=fun w=>by simp[isAgg,run_underlying h]
theorem results_c1 {fn:Func} {p:Tmp} {ty:TypeId} (h:fn.results=#[.cell p ty]) (tmps:Array Value) (P:Program) (w:World) {B:Nat} {v:Value} (hp:tmps.getD p undef = .pointer (some ⟨B,0,none⟩)) (hv:w.cell? ⟨B,0,none⟩=some v) (h1:OneC P ty) :
  (results fn tmps).run P w = .ok v w:=by
 have hp':tmps[p]?.getD undef = .pointer (some ⟨B,0,none⟩):=by rw[<- hp];simp
 simp[results,h,Sem.run_bind,Result.andThen,hp',hv,loadVar,h1 w,asAddr]
theorem results_c2 {fn:Func} {p q:Tmp} {ty tz:TypeId} (h:fn.results=#[.cell p ty,.cell q tz]) (tmps:Array Value) (P:Program) (w:World) {B C:Nat} {v u:Value} (hp:tmps.getD p undef = .pointer (some ⟨B,0,none⟩)) (hv:w.cell? ⟨B,0,none⟩=some v) (h1:OneC P ty)
  (hq:tmps.getD q undef = .pointer (some ⟨C,0,none⟩)) (hu:w.cell? ⟨C,0,none⟩=some u) (h2:OneC P tz) :
  (results fn tmps).run P w = .ok (.tuple #[v,u]) w:=by
 have hp':tmps[p]?.getD undef = .pointer (some ⟨B,0,none⟩):=by rw[<- hp];simp
 have hq':tmps[q]?.getD undef = .pointer (some ⟨C,0,none⟩):=by rw[<- hq];simp
 simp[results,h,Sem.run_bind,Result.andThen,hp',hv,loadVar,h1 w,asAddr,hq',hu,h2 w]
theorem step_set {S:Nat->Prop} {W:World} {B:Nat} (hS:S B) (v:Value):Step S S W (W.setCell ⟨B,0,none⟩ v):=by
 have h:=Below.setCell (Below.refl 0 W) (p:=⟨B,0,none⟩) (Nat.zero_le _) v;exact⟨h.os,h.tape,h.output,h.size,fun b hb hn=>Below.heap_setCell W ⟨B,0,none⟩ v b (fun e=>hn (by rw[e];exact hS)),fun b hb=>.inl hb⟩
theorem Boxed.other {W:World} {B B':Nat} {t:TypeId} {v:Value} (h:Boxed W B t v) (hne:B ≠ B') (u:Value):Boxed (W.setCell ⟨B',0,none⟩ u) B t v:=(Below.heap_setCell W ⟨B',0,none⟩ u B hne).trans h
theorem Grow.step {B:Nat} {S S1:Nat->Prop} {A:World} (hB:A.heap.size<=B):Grow B (fun W=>Step S S1 A W):=by
 refine⟨fun {W W'} h hb=>h.trans (Step.of_below hb),fun {W l o} o' h hl ho hc=>?_⟩;exact⟨h.os,h.tape,h.output,by rw[World.putObj_size];exact h.size,fun b hb hS=>(World.putObj_heap_other (by omega)).trans (h.keep b hb hS),h.sub⟩
theorem Step.boxed {S S1:Nat->Prop} {A W:World} (h:Step S S1 A W) {B:Nat} {t:TypeId} {v:Value} (hb:Boxed A B t v) (hS:¬ S B):Boxed W B t v:=(h.keep B hb.lt hS).trans hb
theorem Step.not {S S1:Nat->Prop} {A W:World} (h:Step S S1 A W) {B:Nat} (hS:¬ S B) (hB:B<A.heap.size):¬ S1 B:=fun h1=>by
 rcases h.sub B h1 with h2 | h2
 ·exact hS h2
 ·omega
theorem Boxed.below {W W1:World} {B:Nat} {t:TypeId} {v:Value} (h:Boxed W B t v) (hb:Below W.heap.size W W1):Boxed W1 B t v:=(hb.block B h.lt).trans h
end Go.Proofs.YtmkgecapkeojaaaGreat.Run
end
section
namespace Go.Proofs.YtmkgecapkeojaaaGreat.Eg
open PDa
open RowKit YtmkgecapkeojaaaGreatW.PrintWords YtmkgecapkeojaaaGreatW.PrintLast YtmkgecapkeojaaaGreatW.PrintMore
open Run Rw
abbrev kE:=k41
abbrev kJp:=k85
abbrev tE:Nat:=41
abbrev tJ:Nat:=85
abbrev tV:Nat:=65
theorem R_grown {α β:Type} {d:Kd α} {d':Kd β} {e e':Nat} {W w1:World} {b b':Nat} {ok ok':Nat->Prop} {u v:Value} {xs:List α} {ys:List β} (hu:d.R e W b ok u xs) (hv:d'.R e' W b' ok' v ys)
  (hne:∀ q,q ∈ e :: d.E->q ≠ e') (hg:W.grownBy w1 v.ownBlock):d.R e w1 b ok u xs :=
 Kd.R_mono (Kd.R_step (Kd.R_apart' hu (Kd.R_typed hv) hne) (fun k hk hlt=>hg.block k hlt hk.2)) (fun _ hk=>hk.1)
theorem grown_trans {W W1 W2:World} {v v1:Value} (h:W.grownBy W1 v.ownBlock) (hat:v1.ownBlock=v.ownBlock \/ ∃ b,v1.ownBlock=some b/\W.heap.size<=b) (k:W1.grownBy W2 v1.ownBlock):W.grownBy W2 v.ownBlock:=by
 refine⟨k.os.trans h.os,k.tape.trans h.tape,k.output.trans h.output,Nat.le_trans h.size k.size,fun b hb hne=>?_⟩;refine (k.block b (Nat.lt_of_lt_of_le hb h.size) fun e=>?_).trans (h.block b hb hne)
 rcases hat with hat | ⟨g,hg,hle⟩
 ·rw[hat] at e;exact hne e
 ·rw[hg] at e;injection e with e;omega
theorem grown_below {W W1:World} {r:Option Nat} (h:Below W.heap.size W W1):W.grownBy W1 r:=⟨h.os,h.tape,h.output,h.size,fun b hb _=>h.block b hb⟩
theorem grown_step {W W1 W2:World} {r:Option Nat} (h:Below W.heap.size W W1) (k:W1.grownBy W2 r):W.grownBy W2 r :=
 ⟨k.os.trans h.os,k.tape.trans h.tape,k.output.trans h.output,Nat.le_trans h.size k.size,fun b hb hne=>(k.block b (Nat.lt_of_lt_of_le hb h.size) hne).trans (h.block b hb)⟩
theorem own_at_trans {W W1 W2:World} {v v1 v2:Value} (h:v1.ownBlock=v.ownBlock \/ ∃ b,v1.ownBlock=some b/\W.heap.size<=b) (h1:W.heap.size<=W1.heap.size) (h2:W1.heap.size<=W2.heap.size) (k:v2.ownBlock=v1.ownBlock \/ ∃ b,v2.ownBlock=some b/\W2.heap.size<=b) :
  v2.ownBlock=v.ownBlock \/ ∃ b,v2.ownBlock=some b/\W.heap.size<=b:=by
 rcases k with k | ⟨g,hg,hle⟩
 ·rw[k];exact h
 ·exact .inr ⟨g,hg,by omega⟩
def putP (l:List S41) (r:List S65) (f:List S85):List S41:=l ++ f.map fun j=>⟨r,j.f0,j.f1⟩
def put.T4:Bool × List (List Nat × List Nat):=(true,[([],[]),([],[]),([1],[1]),([],[]),([3],[3]),([],[]),([5],[5]),([2,4,6],[2,4,6]),([7],[7]),([0,8,2],[0,8]),([9,9,0,1,2,3,4,5,6,7,8,9],[0,9])])
def put.B4:List Nat:=[0,0,2,0,8,0,32,126,254,511,1023]
theorem put.tab4:rtab .any (opsOf Tryz.f86 4)=put.T4:=by kernel_rfl
theorem put.bits4:waitsOk put.T4.2 put.B4=true:=by kernel_rfl
theorem put_calls (base:Nat) (ok:Nat->Prop) (v:Value) (l:List S41) (A1:Option Addr) (c1:Nat) (r:List S65) (A2:Option Addr) (c2:Nat) (f:List S85) (w:World)
  (hR:Kd.R kE tE w base ok v l) (hbase:base<=w.heap.size) (hfresh:∀ k,w.heap.size<=k->ok k) (hr:Kd.R kV tV w 0 (fun _=>True) (.slice A1 r.length c1) r) (hf:Kd.R kJp tJ w 0 (fun _=>True) (.slice A2 f.length c2) f)
  (hrl:r.length<=4398046511104) (hl:l.length+f.length<=1099511627776) :
  Calls Tryz.prog 86 #[v,.slice A1 r.length c1,.slice A2 f.length c2] w fun e w'=>∃ v1,e = .returned v1/\Kd.R kE tE w' base ok v1 (putP l r f)/\w.grownBy w' v.ownBlock/\(v1.ownBlock=v.ownBlock \/ ∃ b,v1.ownBlock=some b/\w.heap.size<=b):=by
 have hu:=Tryz.underlying41;have hu22:Tryz.prog.underlying 22=some (.slice 41):=by kernel_rfl
 have HR:=Hd hR;have HRr:=Hd hr;have HRf:=Hd hf;have HFR:=Hd hfresh;have HB0:=Hd hbase;have HL:=Hd hl;have HRL:=Hd hrl;clear hR hr hf hfresh hbase hl hrl;go_enter Tryz.func86,Tryz.ntmps86;go_wp2
 go_loopw [0,11] (fun v0 v11 wr=>∃ (i:Nat),i<=f.length/\v11 = .int .i64 (i:Int)/\Aside0 (Kd.R kE tE wr base ok v0 (putP l r (f.take i)))/\Aside0 (w.grownBy wr v.ownBlock)/\Aside0 (v0.ownBlock=v.ownBlock \/ ∃ b,v0.ownBlock=some b/\w.heap.size<=b)/\Aside0 (Kd.R kV tV wr 0 (fun _=>True) (.slice A1 r.length c1) r)/\Aside0 (Kd.R kJp tJ wr 0 (fun _=>True) (.slice A2 f.length c2) f)) (fun v0 v11 wr=>f.length - (intOf v11).toNat)
 case atStart=>exact⟨0,Nat.zero_le _,rfl,⟨by simpa [putP] using HR.out⟩,⟨World.grownBy.refl w _⟩,⟨.inl rfl⟩,⟨HRr.out⟩,⟨HRf.out⟩⟩
 case round =>
  obtain⟨i,hi,rfl,HO,HG,HAT,HRr1,HRf1⟩:=hrel
  by_cases c:i<f.length
  ·obtain⟨Y,hYj⟩:∃ Y,f[i]=Y:=⟨_,rfl⟩
   obtain⟨ad,e1,x0,x1⟩:=at_T85 (Kd.R_reads' HRf1.out).2.2 (i:Int) zq4 zq4;have hrd:rd_T85 f (i:Int)=Y:=by
    unfold rd_T85;rw[Int.toNat_natCast,List.getD_eq_getElem?_getD,List.getElem?_eq_getElem c];exact hYj
   rw[Int.toNat_natCast,hrd] at x0 x1;clear hrd;cases e1;have HYj:=Hd hYj;clear hYj;have hll:f.length<=1099511627776:=by have:=HL.out;omega
   go_wp2;obtain⟨wA,hwA⟩:∃ x,x=wr.alloc (.cells #[.int .i64 Y.f0,.int .i64 Y.f1] 85):=⟨_,rfl⟩
   have b0:wA.drew.cell? ⟨wr.heap.size,0,none⟩=some (.int .i64 Y.f0):=by rw[hwA];exact (blk_cell (blk_new wr _) 0).trans rfl
   have b1:wA.drew.cell? ⟨wr.heap.size,1,none⟩=some (.int .i64 Y.f1):=by rw[hwA];exact (blk_cell (blk_new wr _) 1).trans rfl
   have HBA:=Hd (show Below wr.heap.size wr wA.drew by rw[hwA];exact below_drew1 (below_alloc (Below.refl _ wr) _));have HSA:=Hd (show wA.drew.heap.size=wr.heap.size+1 by rw[hwA];show (wr.alloc _).heap.size=_;rw[World.size_alloc]);rw[<- hwA];clear hwA x0 x1;have HOA:=Hd (Kd.R_below HO.out HBA.out);have HGA:=Hd (grown_trans HG.out HAT.out (grown_below HBA.out));have HRrA:=Hd (Kd.R_below HRr1.out HBA.out);have HRfA:=Hd (Kd.R_below HRf1.out HBA.out);have HOW:=Hd (fun k (h:u0.ownBlock=some k)=>own_ltR HO.out h);have CC:=Hd (copy_calls A1 c1 r wA.drew (Kd.R_reads' HRrA.out).2.2 HRL.out);clear HO HG HRr1 HRf1;refine start_ (n:=11) (S:=fun w'=>w'.cell? ⟨wr.heap.size,0,none⟩=some (.int .i64 Y.f0)/\w'.cell? ⟨wr.heap.size,1,none⟩=some (.int .i64 Y.f1)) (ds:=[8,9]) #[false,false,false,false,false,false,false,false,false,false,false] zq17 rfl rfl ⟨b0,b1⟩ (fun hHeld=>?_);refine with_tabW put.tab4 put.bits4 (fun HT_ HW_=>?_);refine pZ 0 15 ?_;refine pZ 1 16 ?_;refine pZ 3 18 ?_;refine pZ 5 20 ?_;refine tZ2 4 19 ?_;refine tZ2 6 21 ?_;refine oZ 2 17 (fun K hK=>?_);refine goes_ Tryz.func127 zq17 rfl #[.slice A1 r.length c1] (by rfl) rfl rfl zq67 ?_
   with_reducible refine (CC.out).mono ?_
   rintro e w3 ⟨vc,rfl,hRc,hbc⟩;refine⟨_,rfl,?_⟩;obtain⟨Ac,cc,rfl⟩:=Kd.R_slice hRc;have HRC:=Hd hRc;have HBC:=Hd hbc;clear hRc hbc;refine hK.out _ _ ⟨pw_cell_below HBC.out b0,pw_cell_below HBC.out b1⟩ (fun hHeld=>?_);clear hK K;refine nZ 17 ?_;refine pZ 7 22 ?_;refine last_ (i:=8) (N:=some 23) #[true,true,true,true,true,true,true,true,true,false,false] rfl rfl (one_of HT_.out zq17) zq34 (fun K hK=>?_);refine value_ (w1:=?_) (v:=?_) (by rfl) rfl ?_ ?_;rotate_left 2
   ·go_simp
    constructor
    ·rfl
    ·rfl
   refine hK.out _ _ ?_;clear hK K;refine nZ 23 ?_;refine last_ (i:=9) (N:=some 24) #[true,true,true,true,true,true,true,true,true,true,false] rfl rfl (one_of HT_.out zq17) zq34 (fun K hK=>?_);refine Kd.R_append_step kE (w0:=w3) base (by rfl) (.tmp 15) (.tmp 23) 22 41 (.agg #[.slice none 0 0,(.int .i64 0),(.int .i64 0)]) 40 rfl hu22 info41 rfl zq34 zq4 u0 (putP l r (f.take i)) ⟨r,Y.f0,Y.f1⟩ [.slice Ac r.length cc,.int .i64 Y.f0,.int .i64 Y.f1] ok (fun k=>wA.drew.heap.size<=k) rfl rfl ?aP ?aK ?aF ?aO (Below.refl _ _) ?aS ?aL ?_
   case aP=>exact k41_mkM _ _ _ ⟨r,Y.f0,Y.f1⟩ (Kd.R_mono (Kd.R_lower (Kd.R_bound HRC.out) (by have:=HB0.out;have:=HGA.out.size;omega)) (fun _ h=>h.2.1))
   case aK=>exact fun k hk=>⟨HFR.out k (by have:=HGA.out.size;omega),fun e'=>by have:=(HOW.out k e'.symm).2;have:=HSA.out;omega⟩
   case aF=>exact fun k hk=>HFR.out k (by have:=HGA.out.size;have:=HBC.out.size;omega)
   case aO=>exact Kd.R_below HOA.out HBC.out
   case aS=>have:=HB0.out;have:=HGA.out.size;have:=HBC.out.size;omega
   case aL=>have:=HL.out;rw[putP,List.length_append,List.length_map,List.length_take];omega
   intro v1 w1 ho hb hg hat;have HO1:=Hd ho;have HG1:=Hd hg;have HAT1:=Hd hat;clear ho hb hg hat;refine hK.out _ _ ?_;clear hK K;refine nZ 24 ?_;refine pZ 10 0 ?_;refine done_ (done_of HT_.out zq17) ?_;go_wp2;go_roundw
   case rel =>
    refine⟨i+1,by omega,by go_num,⟨?_⟩,⟨?_⟩,⟨?_⟩,⟨?_⟩,⟨?_⟩⟩
    ·have:=HO1.out
     rw[show putP l r (f.take (i+1))=putP l r (f.take i) ++ [⟨r,Y.f0,Y.f1⟩] by unfold putP;rw[List.take_add_one,List.getElem?_eq_getElem c,HYj.out];simp];exact this
    ·exact grown_trans HGA.out HAT.out (grown_step HBC.out HG1.out)
    ·exact own_at_trans HAT.out (HGA.out.size) HBC.out.size HAT1.out
    ·exact R_grown (Kd.R_below HRrA.out HBC.out) (Kd.R_below HOA.out HBC.out) zq34 HG1.out
    ·exact R_grown (Kd.R_below HRfA.out HBC.out) (Kd.R_below HOA.out HBC.out) zq34 HG1.out
   case measure=>simp[intOf];omega
  ·obtain rfl:i=f.length:=by omega
   go_wp2;go_ret;refine⟨_,rfl,?_,HG.out,HAT.out⟩;have:=HO.out;rw[List.take_length] at this;exact this
end Go.Proofs.YtmkgecapkeojaaaGreat.Eg
end
section
namespace Go.Proofs.YtmkgecapkeojaaaGreat.Run
open Go RowKit YtmkgecapkeojaaaGreatW.PrintLast
def noDefer (o:Oper):Bool:=match o.op with | .defer _=>false | _=>true
theorem noDefer_ne {o:Oper} (h:noDefer o=true) (c:Call):o.op ≠ .defer c:=by
 intro e;unfold noDefer at h;rw[e] at h;cases h
theorem rowsIn_wide {l n:Nat} {P:Program} {row:String} {args:Array Value} {w:World} {R:Value->World->Prop} (h:Rows P row args w R):RowsIn (Fence.wide.inRound l) n P row args w R :=
 fun c cs _=>let ⟨v,w',r,s⟩:=h c cs; ⟨v,w',r,stepsIn_wide.2 s⟩
section
variable {l n:Nat} {P:Program} {ops:Array Oper} {Q:Exit->Act->World->Prop}
theorem operIn_of {o:Oper} {a:Act} {w:World} {K:Act->World->Prop} (hd:noDefer o=true) (h:o.wp P a w K Q):o.wpIn (Fence.wide.inRound l) n P a w K Q:=by
 refine⟨fun _ _=>trivial,?_⟩;rw[Fence.inRound_round,Oper.semAt_some l _ _ (noDefer_ne hd)];unfold Oper.wp at h;generalize (execOp a.eval o).run P w=r at h;have hn:(Fence.wide.inRound l).depth.isSome=true->1<=n:=fun h=>by simp[Fence.wide] at h
 cases r with
 | ok x w' =>
  cases x with
  | value v=>exact h
  | skip=>exact h
  | defer d=>exact h
  | enter f args=>exact⟨hn,CallsIn.inRound l (callsIn_wide.2 h)⟩
  | row row args=>exact⟨hn,rowsIn_wide h⟩
  | _=>exact h.elim
 | halt x w'=>cases x <;> first | exact h | exact h.elim
theorem wpOpIn_of {i:Nat} {a:Act} {w:World} {K:Act->World->Prop} (hQ:¬ LetsOut Q) (hd:ops.all noDefer=true) (h:wpOp P ops Q i K a w):wpOpIn (Fence.wide.inRound l) n P ops Q i K a w:=by
 unfold wpOp at h;unfold wpOpIn;cases ho:ops[i]? with
 | none=>rw[ho] at h;exact h
 | some o =>
  rw[ho] at h;have hdo:noDefer o=true:=by
   obtain⟨hi,e⟩:=Array.getElem?_eq_some_iff.1 ho;have:=Array.all_eq_true.1 hd i hi;rw[e] at this;exact this
  simp only at h ⊢
  by_cases hw:Region.wanted o (yielded ops a.tmps)=true
  ·rw[if_pos hw] at h ⊢
   rcases h with h | h
   ·exact operIn_of hdo h
   ·exact absurd h.2 hQ
  ·rw[if_neg hw] at h ⊢
   exact⟨fun _ _=>trivial,h⟩
theorem wpOpsIn_of (hQ:¬ LetsOut Q) (hd:ops.all noDefer=true):∀ (is:List Nat) (a:Act) (w:World),wpOps P ops Q is a w->wpOpsIn (Fence.wide.inRound l) n P ops Q is a w
 | [],_,_,h=>h
 | i :: is,a,w,h=>by
  rw[wpOpsIn_cons];rw[wpOps_cons] at h;exact wpOpIn_mono (fun a w h=>wpOpsIn_of hQ hd is a w h) (wpOpIn_of hQ hd h)
theorem wpAnyIn_of {md:Region.Mode} (hQ:¬ LetsOut Q) (hd:ops.all noDefer=true):∀ (fuel:Nat) (listed:Array Bool) (a:Act) (w:World),wpAny P md ops Q fuel listed a w->wpAnyIn (Fence.wide.inRound l) n P md ops Q fuel listed a w
 | 0,_,_,_,h=>h
 | fuel+1,_,_,_,h=>⟨h.1,fun i hi=>wpOpIn_mono (fun a w h=>wpAnyIn_of hQ hd fuel _ a w h) (wpOpIn_of hQ hd (h.2 i hi))⟩
theorem region_in {id:Nat} {r:List Oper} {a:Act} {w:World} (hQ:¬ LetsOut Q) (hd:r.toArray.all noDefer=true) (h:wpList P r.toArray Q r a w):(Code.region id r.toArray false).wpIn (Fence.wide.inRound l) n P Q a w:=by
 refine wpIn_region (wpOpsIn_of hQ hd _ _ _ ?_);rw[List.range_eq_range', <- Array.length_toList,wpOps_eq_wpList r.toArray.toList 0 (by simp)]
 simpa using h
theorem startIn_ {S:World->Prop} {ds:List Nat} {id m:Nat} {a:Act} {w:World} (hQ:¬ LetsOut Q) (hd:ops.all noDefer=true) (ls:Array Bool) (hm:P.follows .mixedOrders=true) (hn:ops.size=m) (hl:Array.replicate m false=ls) (hS:S w.drew)
  (h:S w.drew->wpAnyLast P .any ops Q S ds m ls a w.drew):(Code.region id ops true).wpIn (Fence.wide.inRound l) n P Q a w:=by
 subst hn;subst hl;exact wpIn_region_any hm (wpAnyIn_of hQ hd _ _ _ _ (wpAny_of_last _ _ _ _ (h hS)))
end
end Go.Proofs.YtmkgecapkeojaaaGreat.Run
end
section
namespace Go.Proofs.YtmkgecapkeojaaaGreat.Eg
open PDa
open RowKit YtmkgecapkeojaaaGreatW.PrintWords YtmkgecapkeojaaaGreatW.PrintLast YtmkgecapkeojaaaGreatW.PrintMore
open SortM Run Stp Rw
attribute [local go_sem] Oper.semAt_some
theorem runs_calls (A0:Option Addr) (c0 n:Nat) (w:World) :
  Calls Tryz.prog 85 #[.slice A0 n c0] w fun e w'=>e = .returned (.func (.func 125) #[] #[.pointer (some ⟨w.heap.size,0,none⟩)]) /\
   w'=w.alloc (.cells #[.slice A0 n c0] 22 (0,0)):=by
 have hmf:∀ (fn:Fn) (first cap:Array Value) (w:World),(Instr.makeFunc fn first cap).run Tryz.prog w = .ok (.func fn first cap) w:=fun _ _ _ _=>rfl
 go_enter Tryz.func85,Tryz.ntmps85;go_wp2;go_ret;exact⟨rfl,rfl⟩
theorem runs_iterB (n:Nat) (hn:3<=n) (A0:Option Addr) (c0:Nat) (l:List EdP) (wE w:World) (hr0:Kd.C k41 wE A0 l.length l) (hE:Below wE.heap.size wE w) (hl:l.length<=1099511627776) (hrow:∀ e ∈ l,e.f0.length<=4398046511104) :
  IterOnB Fence.wide n Tryz.prog 125 #[.pointer (some ⟨w.heap.size,0,none⟩)] (runsP l) PhiRunB (fun b=>b<wE.heap.size\/b=w.heap.size) (w.alloc (.cells #[.slice A0 l.length c0] 22 (0,0))) :=
 runs1_iterB n hn A0 c0 l w.heap.size _ wE _ hr0 (below_alloc hE _) ((blk_cell (blk_new w _) 0).trans rfl) (fun b hb=>.inl hb) (.inr rfl) (fun b hb=>by
  rw[World.size_alloc]
  rcases hb with hb | hb
  ·have:=hE.size;omega
  ·omega) hl hrow
theorem runs_iter (n:Nat) (hn:3<=n) (A0:Option Addr) (c0:Nat) (l:List EdP) (wE w:World) (hr0:Kd.C k41 wE A0 l.length l) (hE:Below wE.heap.size wE w) (hl:l.length<=1099511627776) (hrow:∀ e ∈ l,e.f0.length<=4398046511104) :
  IterOn Fence.wide n Tryz.prog 125 #[.pointer (some ⟨w.heap.size,0,none⟩)] (runsP l) PhiRun (fun b=>b<wE.heap.size\/b=w.heap.size) (w.alloc (.cells #[.slice A0 l.length c0] 22 (0,0))) :=
 runs1_iter n hn A0 c0 l w.heap.size _ wE _ hr0 (below_alloc hE _) ((blk_cell (blk_new w _) 0).trans rfl) (fun b hb=>.inl hb) (.inr rfl) (fun b hb=>by
  rw[World.size_alloc]
  rcases hb with hb | hb
  ·have:=hE.size;omega
  ·omega) hl hrow
theorem Grow.phiB (B:Nat) (x:List Vl × List Jp) (args:Array Value) (z:Nat):Grow B (PhiRunB x args z) :=
 Grow.ex fun Ar=>Grow.ex fun cr=>Grow.ex fun Aj=>Grow.ex fun cj=>(Grow.const _ _).and ((Grow.R _ _ _ _ _ _).and (Grow.R _ _ _ _ _ _))
theorem Grow.phi (B:Nat) (x:List Vl × List Jp) (args:Array Value):Grow B (PhiRun x args) :=
 Grow.ex fun Ar=>Grow.ex fun cr=>Grow.ex fun Aj=>Grow.ex fun cj=>(Grow.const _ _).and ((Grow.R _ _ _ _ _ _).and (Grow.R _ _ _ _ _ _))
theorem put_boxed {W:World} {B D:Nat} {t:TypeId} {v:Value} (h:Boxed W B t v) (hne:B ≠ D) (o:Obj):Boxed (W.putObj D o) B t v:=(World.putObj_heap_other hne).trans h
def lastB (last:Option (List Vl)) (r:List Vl):Bool:=match last with | none=>true | some y=>decide (cmpR y r<0)
def eachR (p:List Jp->Bool):Option (List Vl)->List (List Vl × List Jp)->Bool
 | _,[]=>true
 | last,x :: xs=>(rowMay x.1 && lastB last x.1 && p x.2) && eachR p (some x.1) xs
def eachP (p:List Jp->Bool) (l:List EdP):Bool:=decide (l.length<=4096) && eachR p none (runsP l)
def lastOf (l:List (List Vl × List Jp)) (k:Nat):Option (List Vl):=if k=0 then none else (l[k - 1]?).map (·.1)
theorem eachR_drop (p:List Jp->Bool) (l:List (List Vl × List Jp)) (k:Nat) (x:List Vl × List Jp) (h:l[k]? = some x):eachR p (lastOf l k) (l.drop k)=((rowMay x.1 && lastB (lastOf l k) x.1 && p x.2) && eachR p (lastOf l (k+1)) (l.drop (k+1))):=by
 obtain⟨hk,hx⟩:=List.getElem?_eq_some_iff.1 h;rw[List.drop_eq_getElem_cons hk,hx,eachR]
 congr 2
 unfold lastOf;rw[if_neg (Nat.succ_ne_zero k),Nat.add_sub_cancel,h]
 rfl
theorem each_calls (p:List Jp->Bool) (fn:Nat) (A0:Option Addr) (c0:Nat) (l:List EdP) (w:World) (hr0:Kd.C k41 w A0 l.length l) (hrow:∀ e ∈ l,e.f0.length<=4398046511104)
  (hfn:∀ args w,(callFunc fn args).run Tryz.prog w = .ok (.enter fn args) w)
  (hp:∀ (A:Option Addr) (c:Nat) (f:List Jp) (W1:World),Below w.heap.size w W1->Kd.R kJ 85 W1 0 (fun _=>True) (.slice A f.length c) f->Calls Tryz.prog fn #[.slice A f.length c] W1 fun e w'=>e = .returned (.bool (p f))/\Below W1.heap.size W1 w') :
  Calls Tryz.prog 59 #[.slice A0 l.length c0,.func (.func fn) #[] #[]] w fun e w'=>e = .returned (.bool (eachP p l))/\Below w.heap.size w w':=by
 have RC:=Hd (runs_calls A0 c0 l.length);have HR:=Hd hr0;have HRW:=Hd hrow;have HP:=Hd hp;clear hr0 hrow hp;refine (callsIn_wide (n:=9)).1 ?_;refine callsIn_of_wp_marks Tryz.func59 rfl trivial ?_ rfl;simp only[Tryz.ntmps59,List.size_toArray,List.length_cons,List.length_nil,Nat.reduceAdd,Nat.reduceSub,Array.replicate_succ,Array.replicate_zero,List.push_toArray,List.append_toArray,List.nil_append,List.cons_append]
 by_cases hl:l.length<=4096
 ·have HLL:=Hd hl
  have b0:decide ((l.length:Int) > 4096)=false:=DEF zq4
  gi_wp2_with (refine⟨trivial,?_⟩;(with_reducible refine (callsIn_wide.2 (RC.out _)).mono ?_);rintro e w1 ⟨rfl,rfl⟩)
  obtain⟨W1,hW1⟩:∃ W1,(((w.alloc (.cells #[.func (.func fn) #[] #[]] 82 (0,0))).alloc (.cells #[.bool false] 4 (0,0))).alloc (.cells #[.slice none 0 0] 39 (0,0))).alloc (.cells #[.bool false] 4 (0,0))=W1:=⟨_,rfl⟩
  have hsz:W1.heap.size=w.heap.size+4:=by rw[<- hW1];simp
  have hB1:Below w.heap.size w W1:=by
   rw[<- hW1];exact below_alloc (below_alloc (below_alloc (below_alloc (Below.refl _ w) _) _) _) _
  have bx3:Boxed W1 w.heap.size 82 (.func (.func fn) #[] #[]):=by
   rw[<- hW1];exact blk_alloc (blk_alloc (blk_alloc (blk_new w _) _) _) _
  have bx4:Boxed W1 (w.heap.size+1) 4 (.bool false):=by
   rw[<- hW1];have h1:=blk_new (w.alloc (.cells #[.func (.func fn) #[] #[]] 82 (0,0))) (.cells #[.bool false] 4 (0,0));rw[World.size_alloc] at h1;exact blk_alloc (blk_alloc h1 _) _
  have bx5:Boxed W1 (w.heap.size+1+1) 39 (.slice none 0 0):=by
   rw[<- hW1];have h1:=blk_new ((w.alloc (.cells #[.func (.func fn) #[] #[]] 82 (0,0))).alloc (.cells #[.bool false] 4 (0,0))) (.cells #[.slice none 0 0] 39 (0,0));rw[World.size_alloc,World.size_alloc] at h1;exact blk_alloc h1 _
  have bx6:Boxed W1 (w.heap.size+1+1+1) 4 (.bool false):=by
   rw[<- hW1];have h1:=blk_new (((w.alloc (.cells #[.func (.func fn) #[] #[]] 82 (0,0))).alloc (.cells #[.bool false] 4 (0,0))).alloc (.cells #[.slice none 0 0] 39 (0,0))) (.cells #[.bool false] 4 (0,0));rw[World.size_alloc,World.size_alloc,World.size_alloc] at h1;exact h1
  have hit:=runs_iter 8 zq4 A0 c0 l w W1 HR.out hB1 zq4 HRW.out;have HSZ:=Hd hsz;have HB1:=Hd hB1;have HIT:=Hd hit;have HX:=Hd (And.intro (bx3.alloc (.cells #[.slice A0 l.length c0] 22 (0,0))) (And.intro (bx4.alloc (.cells #[.slice A0 l.length c0] 22 (0,0))) (And.intro (bx5.alloc (.cells #[.slice A0 l.length c0] 22 (0,0))) (bx6.alloc (.cells #[.slice A0 l.length c0] 22 (0,0))))));have e4:w.heap.size+1+1+1+1=W1.heap.size:=by omega
  rw[hW1,e4];clear hsz hB1 bx3 bx4 bx5 bx6 hit hW1 e4 b0 hl;obtain⟨its,hits⟩:∃ x,runsP l=x:=⟨_,rfl⟩
  have HE:=Hd (show eachP p l=eachR p none its by unfold eachP;rw[DET HLL.out,Bool.true_and,hits]);rw[hits] at HIT;clear hits;obtain⟨W2,hW2⟩:∃ W2,W1.alloc (.cells #[.slice A0 l.length c0] 22 (0,0))=W2:=⟨_,rfl⟩
  have HS2:=Hd (show W2.heap.size=w.heap.size+5 by rw[<- hW2,World.size_alloc,HSZ.out]);have HB2:=Hd (show Below w.heap.size w W2 by rw[<- hW2];exact below_alloc HB1.out _);rw[hW2] at HIT HX ⊢;clear hW2;have hS0:∀ b,(b=w.heap.size+1\/b=w.heap.size+1+1\/b=w.heap.size+1+1+1) -> ¬ (b<w.heap.size\/b=W1.heap.size)/\b<W2.heap.size:=by
   intro b hb;have h1:=HSZ.out;have h2:=HS2.out;omega
  refine range_outer (F:=Fence.wide) rfl zq4 (gf:=125) (lb:=#[.pointer (some ⟨W1.heap.size,0,none⟩)]) rfl trivial (enters_of Tryz.func125 zq17 rfl) HIT.out (Keeps.refl _ _) (fun x args W h=>by obtain⟨_,_,_,_,rfl,_⟩:=h;rfl)
   (fun k S W=>S=(fun b=>b=w.heap.size+1\/b=w.heap.size+1+1\/b=w.heap.size+1+1+1)/\Boxed W w.heap.size 82 (.func (.func fn) #[] #[])/\Boxed W (w.heap.size+1) 4 (.bool false)/\Boxed W (w.heap.size+1+1+1) 4 (.bool (decide (0<k))) /\
    (∃ A5 c5 y,Boxed W (w.heap.size+1+1) 39 (.slice A5 (y:List Vl).length c5)/\Kd.R kV 65 W 0 (fun _=>True) (.slice A5 y.length c5) y/\lastOf its k=(if k=0 then none else some y))/\Below w.heap.size w W/\eachR p none its=eachR p (lastOf its k) (its.drop k))
   (fun c S W=>c = .ret/\Boxed W (w.heap.size+1) 4 (.bool false)/\Below w.heap.size w W/\eachR p none its=false)
   (fun x args a' W=>∃ Ar cr Aj cj,args=#[.slice Ar x.1.length cr,.slice Aj x.2.length cj]/\a' = { tmps:=#[.slice A0 l.length c0,.func (.func fn) #[] #[],undef,.pointer (some ⟨w.heap.size,0,none⟩),.pointer (some ⟨w.heap.size+1,0,none⟩),.pointer (some ⟨w.heap.size+1+1,0,none⟩),.pointer (some ⟨w.heap.size+1+1+1,0,none⟩),.slice Ar x.1.length cr,.slice Aj x.2.length cj,.slice A0 l.length c0,.int .i64 l.length,.bool false,.slice A0 l.length c0,.func (.func 125) #[] #[.pointer (some ⟨W1.heap.size,0,none⟩)],.slice Ar x.1.length cr,.slice Aj x.2.length cj,undef,undef,undef,undef,undef,undef,undef,undef,undef,undef,undef,undef,undef,undef,undef,undef,undef,undef,undef],defers:=[] })
   (fun k S=>(Grow.const _ _).and ((Grow.boxed _ _ _ _).and ((Grow.boxed _ _ _ _).and ((Grow.boxed _ _ _ _).and ((Grow.ex fun A5=>Grow.ex fun c5=>Grow.ex fun y=>(Grow.boxed _ _ _ _).and ((Grow.R _ _ _ _ _ _).and (Grow.const _ _))).and ((Grow.base (by have:=HS2.out;omega) w (Nat.le_refl _)).and (Grow.const _ _)))))))
   (fun c S=>(Grow.const _ _).and ((Grow.boxed _ _ _ _).and ((Grow.base (by have:=HS2.out;omega) w (Nat.le_refl _)).and (Grow.const _ _)))) (fun x args=>Grow.phi _ _ _)
   (fun x args a'=>Grow.const _ _)
   (fun b=>b=w.heap.size+1\/b=w.heap.size+1+1\/b=w.heap.size+1+1+1) hS0 ⟨rfl,HX.out.1,HX.out.2.1,HX.out.2.2.2,⟨none,0,[],HX.out.2.2.1,Kd.R_nil _ _ _ _ _,rfl⟩,HB2.out,by unfold lastOf;rfl⟩ ?assign ?body ?done ?stop
  case assign =>
   rintro l' k S x args W K hx hi ⟨Ar,cr,Aj,cj,rfl,hphi⟩ hK;clear hi hphi;gi_wp2;exact hK _ _ (Below.refl _ W) ⟨Ar,cr,Aj,cj,rfl,rfl⟩
  case body =>
   rintro l' k S x args a' W hl' ⟨r,hr⟩ hx hSb hSl hkR ⟨rfl,bx3,bx4,bx6,⟨A5,c5,y,bx5,hR5,hlast⟩,hBW,hEE⟩ ⟨Ar,cr,Aj,cj,he1,hRr,hRj⟩ ⟨Ar2,cr2,Aj2,cj2,he2,rfl⟩;rw[he1] at he2;cases he2;dsimp only [];have hcr:=(Kd.R_reads' hRr).2.1;have hc5:=(Kd.R_reads' hR5).2.1;have HH:=Hd (eachR_drop p its k x hx);have M:=Hd (fun (w1:World) (h:Below W.heap.size W w1)=>row_May.calls Ar cr x.1 (rowMay x.1) w1 (Kd.R_reads' (Kd.R_below hRr h)).2.2 hcr rfl);have C:=Hd (fun (w1:World) (h:Below W.heap.size W w1)=>compare_calls A5 Ar c5 cr y x.1 w1 (Kd.R_reads' (Kd.R_below hR5 h)).2.2 (Kd.R_reads' (Kd.R_below hRr h)).2.2 hc5 hcr);have PP:=Hd (fun (w1:World) (h:Below W.heap.size W w1)=>HP.out Aj cj x.2 w1 (hBW.trans (h.mono hBW.size)) (Kd.R_below hRj h));have HRR:=Hd hRr;have HBX3:=Hd bx3;have HBX4:=Hd bx4;have HBX5:=Hd bx5;have HBX6:=Hd bx6;have HLA:=Hd hlast;have HBW:=Hd hBW;have HEE:=Hd hEE;have HSB:=Hd hSb;have HKX:=Hd (show lastOf its (k+1)=some x.1 by unfold lastOf;rw[if_neg (Nat.succ_ne_zero k),Nat.add_sub_cancel,hx];rfl);clear hcr hc5 hRr hR5 hRj bx3 bx4 bx5 bx6 hlast hBW hEE hx he1 hSb hSl hkR hr hl';refine wpIn_block ?_;refine wpIn_seq ?_;refine wpIn_seq ?_;refine region_in (fun ⟨_,_,h⟩=>h) ?hd ?_
   case hd=>kernel_rfl
   cases hm:rowMay x.1 with
   | false =>
    rw[hm] at M
    go_wp2_with ((with_reducible refine (M.out _ (Below.refl _ W)).mono ?_);rintro e w4 ⟨rfl,hb4⟩;have HB4:=Hd hb4;clear hb4;have hfr:=(Boxed.below HBX4.out HB4.out).frozen;have hfr5:=(Boxed.below HBX5.out HB4.out).frozen;have hfr6:=(Boxed.below HBX6.out HB4.out).frozen;have cl3:=(Boxed.below HBX3.out HB4.out).cell;have cl4:=(Boxed.below HBX4.out HB4.out).cell;have cl5:=(Boxed.below HBX5.out HB4.out).cell;have cl6:=(Boxed.below HBX6.out HB4.out).cell)
    have HB42:=Hd (show eachR p none its=false by rw[HEE.out,HH.out,hm];simp);have HST:=Hd ((Step.of_below (S:=fun b=>b=w.heap.size+1\/b=w.heap.size+1+1\/b=w.heap.size+1+1+1) HB4.out).trans (step_set (.inl rfl) (.bool false)));have HBZ:=Hd (Below.setCell (HBW.out.trans (HB4.out.mono HBW.out.size)) (p:=⟨w.heap.size+1,0,none⟩) (Nat.le_succ _) (.bool false));gi_wp2;exact⟨_,HST.out,fun b hb=>Nat.lt_of_lt_of_le (HSB.out b hb) HST.out.size,rfl,(Boxed.below HBX4.out HB4.out).set _,HBZ.out,HB42.out⟩
   | true =>
    rw[hm] at M;cases hk:decide (0<k) with
    | false =>
     rw[hk] at HBX6;have hlb:lastB (lastOf its k) x.1=true:=by rw[HLA.out,if_pos (by simpa using hk)];rfl
     have HLB:=Hd hlb;clear hlb;cases hpx:p x.2 with
     | false =>
      rw[hpx] at PP
      go_wp2_with (first | ((with_reducible refine (M.out _ (Below.refl _ W)).mono ?_);rintro e w4 ⟨rfl,hb4⟩;have HB4:=Hd hb4;clear hb4;have hfr:=(Boxed.below HBX4.out HB4.out).frozen;have hfr5:=(Boxed.below HBX5.out HB4.out).frozen;have hfr6:=(Boxed.below HBX6.out HB4.out).frozen;have cl3:=(Boxed.below HBX3.out HB4.out).cell;have cl4:=(Boxed.below HBX4.out HB4.out).cell;have cl5:=(Boxed.below HBX5.out HB4.out).cell;have cl6:=(Boxed.below HBX6.out HB4.out).cell) | ((with_reducible refine (PP.out _ HB4.out).mono ?_);rintro e w6 ⟨rfl,hb6⟩;have HB6:=Hd (HB4.out.trans (hb6.mono HB4.out.size));clear hb6;have hfr:=(Boxed.below HBX4.out HB6.out).frozen;have hfr5:=(Boxed.below HBX5.out HB6.out).frozen;have hfr6:=(Boxed.below HBX6.out HB6.out).frozen;have cl3:=(Boxed.below HBX3.out HB6.out).cell;have cl4:=(Boxed.below HBX4.out HB6.out).cell;have cl5:=(Boxed.below HBX5.out HB6.out).cell;have cl6:=(Boxed.below HBX6.out HB6.out).cell))
      have HB62:=Hd (show eachR p none its=false by rw[HEE.out,HH.out,hpx];simp);have HST:=Hd ((Step.of_below (S:=fun b=>b=w.heap.size+1\/b=w.heap.size+1+1\/b=w.heap.size+1+1+1) HB6.out).trans (step_set (.inl rfl) (.bool false)));have HBZ:=Hd (Below.setCell (HBW.out.trans (HB6.out.mono HBW.out.size)) (p:=⟨w.heap.size+1,0,none⟩) (Nat.le_succ _) (.bool false));gi_wp2;exact⟨_,HST.out,fun b hb=>Nat.lt_of_lt_of_le (HSB.out b hb) HST.out.size,rfl,(Boxed.below HBX4.out HB6.out).set _,HBZ.out,HB62.out⟩
     | true =>
      rw[hpx] at PP
      go_wp2_with (first | ((with_reducible refine (M.out _ (Below.refl _ W)).mono ?_);rintro e w4 ⟨rfl,hb4⟩;have HB4:=Hd hb4;clear hb4;have hfr:=(Boxed.below HBX4.out HB4.out).frozen;have hfr5:=(Boxed.below HBX5.out HB4.out).frozen;have hfr6:=(Boxed.below HBX6.out HB4.out).frozen;have cl3:=(Boxed.below HBX3.out HB4.out).cell;have cl4:=(Boxed.below HBX4.out HB4.out).cell;have cl5:=(Boxed.below HBX5.out HB4.out).cell;have cl6:=(Boxed.below HBX6.out HB4.out).cell) | ((with_reducible refine (PP.out _ HB4.out).mono ?_);rintro e w6 ⟨rfl,hb6⟩;have HB6:=Hd (HB4.out.trans (hb6.mono HB4.out.size));clear hb6;have hfr:=(Boxed.below HBX4.out HB6.out).frozen;have hfr5:=(Boxed.below HBX5.out HB6.out).frozen;have hfr6:=(Boxed.below HBX6.out HB6.out).frozen;have cl3:=(Boxed.below HBX3.out HB6.out).cell;have cl4:=(Boxed.below HBX4.out HB6.out).cell;have cl5:=(Boxed.below HBX5.out HB6.out).cell;have cl6:=(Boxed.below HBX6.out HB6.out).cell))
      have HF2:=Hd (show eachR p none its=eachR p (lastOf its (k+1)) (its.drop (k+1)) by rw[HEE.out,HH.out,hm,HLB.out,hpx];simp);have HST:=Hd (((Step.of_below (S:=fun b=>b=w.heap.size+1\/b=w.heap.size+1+1\/b=w.heap.size+1+1+1) HB6.out).trans (step_set (.inr (.inl rfl)) (.slice Ar x.1.length cr))).trans (step_set (.inr (.inr rfl)) (.bool true)));have HBZ:=Hd (Below.setCell (Below.setCell (HBW.out.trans (HB6.out.mono HBW.out.size)) (p:=⟨w.heap.size+1+1,0,none⟩) zq52 (.slice Ar x.1.length cr)) (p:=⟨w.heap.size+1+1+1,0,none⟩) (by show _<=w.heap.size+1+1+1;omega) (.bool true));have HB5':=Hd ((Boxed.below HBX5.out HB6.out).set (.slice Ar x.1.length cr));have HB6':=Hd (Boxed.other (Boxed.below HBX6.out HB6.out) (B':=w.heap.size+1+1) zq4 (.slice Ar x.1.length cr));have HRZ:=Hd (Kd.R_set (Kd.R_set (Kd.R_below HRR.out HB6.out) (Boxed.below HBX5.out HB6.out) zq34 0 (.slice Ar x.1.length cr)) HB6'.out zq34 0 (.bool true));gi_wp2;exact⟨_,HST.out,fun b hb=>Nat.lt_of_lt_of_le (HSB.out b hb) HST.out.size,rfl,Boxed.other (Boxed.other (Boxed.below HBX3.out HB6.out) zq4 _) zq4 _,Boxed.other (Boxed.other (Boxed.below HBX4.out HB6.out) zq4 _) zq4 _,by rw[show decide (0<k+1)=true from DET (Nat.succ_pos _)];exact HB6'.out.set _,⟨Ar,cr,x.1,Boxed.other HB5'.out zq4 _,HRZ.out,by rw[if_neg (Nat.succ_ne_zero k)];exact HKX.out⟩,HBZ.out,HF2.out⟩
    | true =>
     rw[hk] at HBX6;have hk':¬ k=0:=by have:=ODT hk;omega
     by_cases hc:cmpR y x.1<0
     ·have HLB:=Hd (show lastB (lastOf its k) x.1=true by rw[HLA.out,if_neg hk'];exact DET hc)
      have bge:decide (cmpR y x.1 >= 0)=false:=DEF zq4;clear hc;cases hpx:p x.2 with
      | false =>
       rw[hpx] at PP
       go_wp2_with (first | ((with_reducible refine (M.out _ (Below.refl _ W)).mono ?_);rintro e w4 ⟨rfl,hb4⟩;have HB4:=Hd hb4;clear hb4;have hfr:=(Boxed.below HBX4.out HB4.out).frozen;have hfr5:=(Boxed.below HBX5.out HB4.out).frozen;have hfr6:=(Boxed.below HBX6.out HB4.out).frozen;have cl3:=(Boxed.below HBX3.out HB4.out).cell;have cl4:=(Boxed.below HBX4.out HB4.out).cell;have cl5:=(Boxed.below HBX5.out HB4.out).cell;have cl6:=(Boxed.below HBX6.out HB4.out).cell) | ((with_reducible refine (C.out _ HB4.out).mono ?_);rintro e w5 ⟨rfl,hb5⟩;have HB5:=Hd (HB4.out.trans (hb5.mono HB4.out.size));clear hb5;have hfr:=(Boxed.below HBX4.out HB5.out).frozen;have hfr5:=(Boxed.below HBX5.out HB5.out).frozen;have hfr6:=(Boxed.below HBX6.out HB5.out).frozen;have cl3:=(Boxed.below HBX3.out HB5.out).cell;have cl4:=(Boxed.below HBX4.out HB5.out).cell;have cl5:=(Boxed.below HBX5.out HB5.out).cell;have cl6:=(Boxed.below HBX6.out HB5.out).cell) | ((with_reducible refine (PP.out _ HB5.out).mono ?_);rintro e w6 ⟨rfl,hb6⟩;have HB6:=Hd (HB5.out.trans (hb6.mono HB5.out.size));clear hb6;have hfr:=(Boxed.below HBX4.out HB6.out).frozen;have hfr5:=(Boxed.below HBX5.out HB6.out).frozen;have hfr6:=(Boxed.below HBX6.out HB6.out).frozen;have cl3:=(Boxed.below HBX3.out HB6.out).cell;have cl4:=(Boxed.below HBX4.out HB6.out).cell;have cl5:=(Boxed.below HBX5.out HB6.out).cell;have cl6:=(Boxed.below HBX6.out HB6.out).cell))
       have HB62:=Hd (show eachR p none its=false by rw[HEE.out,HH.out,hpx];simp);have HST:=Hd ((Step.of_below (S:=fun b=>b=w.heap.size+1\/b=w.heap.size+1+1\/b=w.heap.size+1+1+1) HB6.out).trans (step_set (.inl rfl) (.bool false)));have HBZ:=Hd (Below.setCell (HBW.out.trans (HB6.out.mono HBW.out.size)) (p:=⟨w.heap.size+1,0,none⟩) (Nat.le_succ _) (.bool false));gi_wp2;exact⟨_,HST.out,fun b hb=>Nat.lt_of_lt_of_le (HSB.out b hb) HST.out.size,rfl,(Boxed.below HBX4.out HB6.out).set _,HBZ.out,HB62.out⟩
      | true =>
       rw[hpx] at PP
       go_wp2_with (first | ((with_reducible refine (M.out _ (Below.refl _ W)).mono ?_);rintro e w4 ⟨rfl,hb4⟩;have HB4:=Hd hb4;clear hb4;have hfr:=(Boxed.below HBX4.out HB4.out).frozen;have hfr5:=(Boxed.below HBX5.out HB4.out).frozen;have hfr6:=(Boxed.below HBX6.out HB4.out).frozen;have cl3:=(Boxed.below HBX3.out HB4.out).cell;have cl4:=(Boxed.below HBX4.out HB4.out).cell;have cl5:=(Boxed.below HBX5.out HB4.out).cell;have cl6:=(Boxed.below HBX6.out HB4.out).cell) | ((with_reducible refine (C.out _ HB4.out).mono ?_);rintro e w5 ⟨rfl,hb5⟩;have HB5:=Hd (HB4.out.trans (hb5.mono HB4.out.size));clear hb5;have hfr:=(Boxed.below HBX4.out HB5.out).frozen;have hfr5:=(Boxed.below HBX5.out HB5.out).frozen;have hfr6:=(Boxed.below HBX6.out HB5.out).frozen;have cl3:=(Boxed.below HBX3.out HB5.out).cell;have cl4:=(Boxed.below HBX4.out HB5.out).cell;have cl5:=(Boxed.below HBX5.out HB5.out).cell;have cl6:=(Boxed.below HBX6.out HB5.out).cell) | ((with_reducible refine (PP.out _ HB5.out).mono ?_);rintro e w6 ⟨rfl,hb6⟩;have HB6:=Hd (HB5.out.trans (hb6.mono HB5.out.size));clear hb6;have hfr:=(Boxed.below HBX4.out HB6.out).frozen;have hfr5:=(Boxed.below HBX5.out HB6.out).frozen;have hfr6:=(Boxed.below HBX6.out HB6.out).frozen;have cl3:=(Boxed.below HBX3.out HB6.out).cell;have cl4:=(Boxed.below HBX4.out HB6.out).cell;have cl5:=(Boxed.below HBX5.out HB6.out).cell;have cl6:=(Boxed.below HBX6.out HB6.out).cell))
       have HF2:=Hd (show eachR p none its=eachR p (lastOf its (k+1)) (its.drop (k+1)) by rw[HEE.out,HH.out,hm,HLB.out,hpx];simp);have HST:=Hd (((Step.of_below (S:=fun b=>b=w.heap.size+1\/b=w.heap.size+1+1\/b=w.heap.size+1+1+1) HB6.out).trans (step_set (.inr (.inl rfl)) (.slice Ar x.1.length cr))).trans (step_set (.inr (.inr rfl)) (.bool true)));have HBZ:=Hd (Below.setCell (Below.setCell (HBW.out.trans (HB6.out.mono HBW.out.size)) (p:=⟨w.heap.size+1+1,0,none⟩) zq52 (.slice Ar x.1.length cr)) (p:=⟨w.heap.size+1+1+1,0,none⟩) (by show _<=w.heap.size+1+1+1;omega) (.bool true));have HB5':=Hd ((Boxed.below HBX5.out HB6.out).set (.slice Ar x.1.length cr));have HB6':=Hd (Boxed.other (Boxed.below HBX6.out HB6.out) (B':=w.heap.size+1+1) zq4 (.slice Ar x.1.length cr));have HRZ:=Hd (Kd.R_set (Kd.R_set (Kd.R_below HRR.out HB6.out) (Boxed.below HBX5.out HB6.out) zq34 0 (.slice Ar x.1.length cr)) HB6'.out zq34 0 (.bool true));gi_wp2;exact⟨_,HST.out,fun b hb=>Nat.lt_of_lt_of_le (HSB.out b hb) HST.out.size,rfl,Boxed.other (Boxed.other (Boxed.below HBX3.out HB6.out) zq4 _) zq4 _,Boxed.other (Boxed.other (Boxed.below HBX4.out HB6.out) zq4 _) zq4 _,by rw[show decide (0<k+1)=true from DET (Nat.succ_pos _)];exact HB6'.out.set _,⟨Ar,cr,x.1,Boxed.other HB5'.out zq4 _,HRZ.out,by rw[if_neg (Nat.succ_ne_zero k)];exact HKX.out⟩,HBZ.out,HF2.out⟩
     ·have hlb:lastB (lastOf its k) x.1=false:=by rw[HLA.out,if_neg hk'];exact DEF hc
      have bge:decide (cmpR y x.1 >= 0)=true:=DET zq4;clear hc
      go_wp2_with (first | ((with_reducible refine (M.out _ (Below.refl _ W)).mono ?_);rintro e w4 ⟨rfl,hb4⟩;have HB4:=Hd hb4;clear hb4;have hfr:=(Boxed.below HBX4.out HB4.out).frozen;have hfr5:=(Boxed.below HBX5.out HB4.out).frozen;have hfr6:=(Boxed.below HBX6.out HB4.out).frozen;have cl3:=(Boxed.below HBX3.out HB4.out).cell;have cl4:=(Boxed.below HBX4.out HB4.out).cell;have cl5:=(Boxed.below HBX5.out HB4.out).cell;have cl6:=(Boxed.below HBX6.out HB4.out).cell) | ((with_reducible refine (C.out _ HB4.out).mono ?_);rintro e w5 ⟨rfl,hb5⟩;have HB5:=Hd (HB4.out.trans (hb5.mono HB4.out.size));clear hb5;have hfr:=(Boxed.below HBX4.out HB5.out).frozen;have hfr5:=(Boxed.below HBX5.out HB5.out).frozen;have hfr6:=(Boxed.below HBX6.out HB5.out).frozen;have cl3:=(Boxed.below HBX3.out HB5.out).cell;have cl4:=(Boxed.below HBX4.out HB5.out).cell;have cl5:=(Boxed.below HBX5.out HB5.out).cell;have cl6:=(Boxed.below HBX6.out HB5.out).cell))
      have HB52:=Hd (show eachR p none its=false by rw[HEE.out,HH.out,hlb];simp);have HST:=Hd ((Step.of_below (S:=fun b=>b=w.heap.size+1\/b=w.heap.size+1+1\/b=w.heap.size+1+1+1) HB5.out).trans (step_set (.inl rfl) (.bool false)));have HBZ:=Hd (Below.setCell (HBW.out.trans (HB5.out.mono HBW.out.size)) (p:=⟨w.heap.size+1,0,none⟩) (Nat.le_succ _) (.bool false));gi_wp2;exact⟨_,HST.out,fun b hb=>Nat.lt_of_lt_of_le (HSB.out b hb) HST.out.size,rfl,(Boxed.below HBX4.out HB5.out).set _,HBZ.out,HB52.out⟩
  case done =>
   rintro D S W hD hSD hst hsb ⟨rfl,bx3,bx4,bx6,⟨A5,c5,y,bx5,hR5,hlast⟩,hBW,hEE⟩ hK;rw[List.drop_length] at hEE;have hE:eachP p l=true:=by rw[HE.out,hEE];unfold eachR;rfl
   have cl4:=bx4.cell;have fr4:=bx4.frozen;have HBX4:=Hd bx4;have HBW:=Hd hBW;have HD:=Hd (show w.heap.size<=D by have:=HS2.out;omega);have hD4:D ≠ w.heap.size+1:=by have:=HS2.out;omega
   clear hst hsb hSD bx3 bx6 bx5 hR5 hlast hBW hEE bx4;have hK2:(W.setCell ⟨w.heap.size+1,0,none⟩ (.bool true)).heap[D]? = some (.deferred (some [])):=(Below.heap_setCell W ⟨w.heap.size+1,0,none⟩ (.bool true) D hD4).trans hK;have HK2:=Hd hK2;have HBY:=Hd (Below.setCell HBW.out (p:=⟨w.heap.size+1,0,none⟩) (Nat.le_succ _) (.bool true));have HB4:=Hd (HBX4.out.set (.bool true));have HEt:=Hd hE;clear hK hK2 hE;gi_wp2;refine⟨by simp,.inl ⟨_,_,rfl,run_takeDeferred HK2.out,?_⟩⟩;exact⟨_,results_c1 rfl _ _ _ rfl (Boxed.cell (put_boxed HB4.out hD4.symm _)) (oneC_bool Tryz.underlying4),by rw[HEt.out],below_put (Nat.le_refl _) _ HBY.out HD.out⟩
  case stop =>
   rintro D c S W hD hSD hst hsb ⟨rfl,bx4,hBW,hEE⟩ hK;have hE:eachP p l=false:=by rw[HE.out,hEE]
   have HD:=Hd (show w.heap.size<=D by have:=HS2.out;omega);have hD4:D ≠ w.heap.size+1:=by have:=HS2.out;omega
   have HB4:=Hd bx4;have HBY:=Hd hBW;have HK2:=Hd hK;have HEt:=Hd hE;clear hK hE bx4 hBW hEE hst hsb hSD;gi_wp2;refine⟨by simp,.inl ⟨_,_,rfl,run_takeDeferred HK2.out,?_⟩⟩;exact⟨_,results_c1 rfl _ _ _ rfl (Boxed.cell (put_boxed HB4.out hD4.symm _)) (oneC_bool Tryz.underlying4),by rw[HEt.out],below_put (Nat.le_refl _) _ HBY.out HD.out⟩
 ·have hE:eachP p l=false:=by unfold eachP;rw[DEF hl];rfl
  have b0:decide ((l.length:Int) > 4096)=true:=DET zq4;rw[hE];gi_wp2;have h1:=(blk_cell (blk_new (w.alloc (.cells #[.func (.func fn) #[] #[]] 82 (0,0))) (.cells #[.bool false] 4 (0,0))) 0).trans (show _=some (Value.bool false) from rfl);rw[World.size_alloc] at h1;exact⟨_,results_c1 rfl _ _ _ rfl h1 (oneC_bool Tryz.underlying4),rfl,below_alloc (below_alloc (Below.refl _ w) _) _⟩
attribute [local go_sem] Oper.semAt_some
def mayE (l:List EdP):Bool:=eachP mayJ l
theorem may_any (A:Option Addr) (c:Nat) (f:List Jp) (w:World) (hr:Kd.C kJ w A f.length f) (hc:f.length<=c) :
  Calls Tryz.prog 61 #[.slice A f.length c] w fun e w'=>e = .returned (.bool (mayJ f))/\Below w.heap.size w w' :=
 step_May.calls (f.length+1) A c f _ w hr hc (may_f f)
theorem May_calls (A0:Option Addr) (c0:Nat) (l:List EdP) (w:World) (hr0:Kd.C k41 w A0 l.length l) (hrow:∀ e ∈ l,e.f0.length<=4398046511104) :
  Calls Tryz.prog 46 #[.slice A0 l.length c0] w fun e w'=>e = .returned (.bool (mayE l))/\Below w.heap.size w w':=by
 have EC:=Hd (each_calls mayJ 61 A0 c0 l w hr0 hrow (enters_of Tryz.func61 zq17 rfl) (fun A c f W1 _ h=>may_any A c f W1 (Kd.R_reads' h).2.2 (Kd.R_reads' h).2.1));clear hr0 hrow;go_enter Tryz.func46,Tryz.ntmps46
 go_wp2_with ((with_reducible refine EC.out.mono ?_);rintro e w' ⟨rfl,hb⟩)
 go_ret;exact⟨rfl,hb⟩
theorem Groups_calls (A0:Option Addr) (c0 n:Nat) (w:World) :
  Calls Tryz.prog 48 #[.slice A0 n c0] w fun e w'=>e = .returned (.func (.func 84) #[] #[.pointer (some ⟨w.heap.size,0,none⟩)]) /\
   w'=w.alloc (.cells #[.slice A0 n c0] 22 (0,0)):=by
 have hmf:∀ (fn:Fn) (first cap:Array Value) (w:World),(Instr.makeFunc fn first cap).run Tryz.prog w = .ok (.func fn first cap) w:=fun _ _ _ _=>rfl
 go_enter Tryz.func48,Tryz.ntmps48;go_wp2;go_ret;exact⟨rfl,rfl⟩
theorem groups1_iterB (n:Nat) (hn:8<=n) (A0:Option Addr) (c0:Nat) (l:List EdP) (cp:Nat) (R:Nat->Prop) (wE w0:World)
  (hr0:Kd.C k41 wE A0 l.length l) (hE:Below wE.heap.size wE w0) (hcp:w0.cell? ⟨cp,0,none⟩=some (.slice A0 l.length c0))
  (hR0:∀ b,b<wE.heap.size->R b) (hRp:R cp) (hRw:∀ b,R b->b<w0.heap.size) (hmay:mayE l=true) (hrow:∀ e ∈ l,e.f0.length<=4398046511104) :
  IterOnB Fence.wide n Tryz.prog 84 #[.pointer (some ⟨cp,0,none⟩)] (runsP l) PhiRunB R w0:=by
 refine⟨hRw,fun l' J Jx S W hW hS hJ hJx hY h0=>?_⟩;have hl:l.length<=4096:=by
  unfold mayE eachP at hmay;rw[Bool.and_eq_true] at hmay;exact ODT hmay.1
 have hEW:Below wE.heap.size wE W:=hE.trans (hW.below hR0);have HY:=Hd hY;have HJ:=Hd hJ;have HJX:=Hd hJx;have HS:=Hd hS;have HR:=Hd hr0;have HRW:=Hd hrow;have HEW:=Hd hEW;have HL:=Hd hl;have H0:=Hd h0;have HR0:=Hd hR0;have cpW:=(hW.cell (p:=⟨cp,0,none⟩) hRp).trans hcp;have hMC:=fun (w1:World) (h:Below W.heap.size W w1)=>May_calls A0 c0 l w1 (Kd.C_below hr0 (hEW.trans (h.mono hEW.size))) hrow
 rw[hmay] at hMC;have MC:=Hd hMC;have RC:=Hd (runs_calls A0 c0 l.length);clear hcp hr0 hY hJ hJx hS hE hR0 hRp hRw hrow hmay hMC hEW hl h0;refine callsIn_of_wp_marks Tryz.func84 rfl trivial ?_ rfl;simp only[Tryz.ntmps84,List.size_toArray,List.length_cons,List.length_nil,Nat.reduceAdd,Nat.reduceSub,Array.replicate_succ,Array.replicate_zero,List.push_toArray,List.append_toArray,List.nil_append,List.cons_append];have HBA:=Hd (below_alloc (Below.refl _ W) (.cells #[.func (.yield l') #[] #[]] 107 (0,0)));have BX:=Hd (show Boxed (W.alloc (.cells #[.func (.yield l') #[] #[]] 107 (0,0))) W.heap.size 107 (.func (.yield l') #[] #[]) from blk_new W _);have cpA:=pw_cell_below HBA.out cpW
 gi_wp2_with (first
  | (refine⟨trivial,fun _=>?hn,?_⟩;(case hn=>omega);(with_reducible refine (callsIn_wide.2 (MC.out _ HBA.out)).mono ?_);rintro e w2 ⟨rfl,hb2⟩;have HB2:=Hd (HBA.out.trans (hb2.mono HBA.out.size));have BX2:=Hd (Boxed.below BX.out hb2);have cp2:=pw_cell_below HB2.out cpW;clear hb2)
  | (refine⟨trivial,fun _=>?hn,?_⟩;(case hn=>omega);(with_reducible refine (callsIn_wide.2 (RC.out _)).mono ?_);rintro e w1 ⟨rfl,rfl⟩))
 have hEW2:=HEW.out.trans (HB2.out.mono HEW.out.size);have hit:=runs_iterB (n - 1) zq4 A0 c0 l wE w2 HR.out hEW2 (by have:=HL.out;omega) HRW.out;obtain⟨w3,hw3⟩:∃ w3,w2.alloc (.cells #[.slice A0 l.length c0] 22 (0,0))=w3:=⟨_,rfl⟩
 have HS3:=Hd (show w3.heap.size=w2.heap.size+1 by rw[<- hw3,World.size_alloc]);have HB3:=Hd (show Below W.heap.size W w3 by rw[<- hw3];exact below_alloc HB2.out _);have BX3:=Hd (show Boxed w3 W.heap.size 107 (.func (.yield l') #[] #[]) by rw[<- hw3];exact BX2.out.alloc _);rw[hw3] at hit ⊢;have HIT:=Hd hit;have HWE:=Hd (show wE.heap.size<=W.heap.size from HEW.out.size);have HW2:=Hd (show W.heap.size<w2.heap.size from BX2.out.lt);clear hw3 hit hEW2 cpW cpA cp2;have hS0:∀ b,S b -> ¬ (b<wE.heap.size\/b=w2.heap.size)/\b<w3.heap.size:=by
  intro b hb;have h1:=HS.out b hb;have h2:=HS3.out;have h3:=HW2.out;refine⟨fun h=>?_,by omega⟩
  rcases h with h | h
  ·exact h1.1 (HR0.out b h)
  ·omega
 have hJ3:=(HJ.out 0 S).below H0.out HB3.out;refine range_outerB (F:=Fence.wide) rfl zq4 (gf:=125) (lb:=#[.pointer (some ⟨w2.heap.size,0,none⟩)]) rfl trivial (enters_of Tryz.func125 zq17 rfl) HIT.out (Keeps.refl _ _) (fun x args z W h=>by obtain⟨_,_,_,_,rfl,_⟩:=h;rfl)
  (fun k S1 W1=>J k S1 W1/\Boxed W1 W.heap.size 107 (.func (.yield l') #[] #[])/\Step S S1 w3 W1)
  (fun c S1 W1=>c = .ret/\Jx S1 W1/\Step S S1 w3 W1)
  (fun x args _ a' W1=>∃ Ar cr Aj cj,args=#[.slice Ar x.1.length cr,.slice Aj x.2.length cj]/\a' = { tmps:=#[.func (.yield l') #[] #[],.pointer (some ⟨cp,0,none⟩),.pointer (some ⟨W.heap.size,0,none⟩),.slice Ar x.1.length cr,.slice Aj x.2.length cj,.slice A0 l.length c0,.bool true,.bool false,.slice A0 l.length c0,.func (.func 125) #[] #[.pointer (some ⟨w2.heap.size,0,none⟩)],.slice Ar x.1.length cr,.slice Aj x.2.length cj,undef,undef,undef,undef,undef],defers:=[] })
  (fun k S1=>((HJ.out k S1).mono HB3.out.size).and ((Grow.boxed _ _ _ _).and (Grow.step (Nat.le_refl _))))
  (fun c S1=>(Grow.const _ _).and (((HJX.out S1).mono HB3.out.size).and (Grow.step (Nat.le_refl _)))) (fun x args z=>Grow.phiB _ _ _ _)
  (fun x args _ a'=>Grow.const _ _)
  S hS0 ⟨hJ3,BX3.out,Step.refl _ _⟩ ?assign ?body ?done ?stop
 case assign =>
  rintro l2 k S1 x args z W1 K hx hi ⟨Ar,cr,Aj,cj,rfl,hphi⟩ hK;clear hi hphi;gi_wp2;exact hK _ _ (Below.refl _ W1) ⟨Ar,cr,Aj,cj,rfl,rfl⟩
 case body =>
  rintro l2 k S1 x args z n0 a' W1 hl2 ⟨r,hr⟩ hx hSb hzn hnW hSl hkR ⟨hj,bx,hst⟩ ⟨Ar,cr,Aj,cj,he1,hRr,hRj⟩ ⟨Ar2,cr2,Aj2,cj2,he2,rfl⟩;rw[he1] at he2;cases he2;obtain⟨fn,tmps,assign,body,hy,hRd⟩:=YieldAt.wide (l2:=l2) (m':=n - 1 - 1 - 1) (HY.out k x #[.slice Ar x.1.length cr,.slice Aj x.2.length cj] z S1 W1 hx hj hSb (Nat.le_trans hzn hnW) ((Step.of_below HB3.out).trans hst) ⟨Ar,cr,Aj,cj,rfl,hRr,hRj⟩);have clb:=bx.cell;have HST:=Hd hst;have HBX:=Hd bx;have HSB:=Hd hSb;have hSx:¬ S1 W.heap.size:=hst.not (fun h=>by have:=(HS.out _ h).2;omega) BX3.out.lt;have HSX:=Hd hSx;clear hx hj hSb hzn hnW hSl hkR hr hl2 he1 hRr hRj hst bx hSx;gi_wp2;refine⟨fun _=>by omega,hRd.mono ?_⟩;rintro e W' (⟨rfl,S3,hs3,hb3,hj3⟩ | ⟨rfl,S3,hs3,hb3,hj3⟩)
  ·have HQ:=Hd hs3
   have HB3':=Hd hb3;have HJ3:=Hd hj3;clear hs3 hb3 hj3;gi_wp2;exact⟨S3,HQ.out,HB3'.out,HJ3.out,HQ.out.boxed HBX.out HSX.out,HST.out.trans HQ.out⟩
  ·have HQ:=Hd hs3
   have HB3':=Hd hb3;have HJ3:=Hd hj3;clear hs3 hb3 hj3;gi_wp2;exact⟨S3,HQ.out,HB3'.out,rfl,HJ3.out,HST.out.trans HQ.out⟩
 case done =>
  rintro D S1 W1 hD hSD hst hsb ⟨hj,bx,hst2⟩ hK;have HKK:=Hd hK;have HSB:=Hd hsb;have HJD:=Hd ((HJ.out _ _).put (.deferred none) hj (Nat.le_trans HB3.out.size hD) hK rfl);have HSD:=Hd ((Grow.step (S:=S) (S1:=S1) (A:=W) (Nat.le_refl _)).put (.deferred none) ((Step.of_below HB3.out).trans hst2) (Nat.le_trans HB3.out.size hD) hK rfl);clear hD hSD hst hsb hj bx hst2 hK;gi_wp2;refine⟨by simp,.inl ⟨_,_,rfl,run_takeDeferred HKK.out,?_⟩⟩;exact⟨_,results_none rfl _ _ _,⟨_,rfl⟩,S1,HSD.out,fun b hb=>by rw[World.putObj_size];exact HSB.out b hb,.inl HJD.out⟩
 case stop =>
  rintro D c S1 W1 hD hSD hst hsb ⟨rfl,hj,hst2⟩ hK;have HKK:=Hd hK;have HSB:=Hd hsb;have HJD:=Hd ((HJX.out _).put (.deferred none) hj (Nat.le_trans HB3.out.size hD) hK rfl);have HSD:=Hd ((Grow.step (S:=S) (S1:=S1) (A:=W) (Nat.le_refl _)).put (.deferred none) ((Step.of_below HB3.out).trans hst2) (Nat.le_trans HB3.out.size hD) hK rfl);clear hD hSD hst hsb hj hst2 hK;gi_wp2;refine⟨by simp,.inl ⟨_,_,rfl,run_takeDeferred HKK.out,?_⟩⟩;exact⟨_,results_none rfl _ _ _,⟨_,rfl⟩,S1,HSD.out,fun b hb=>by rw[World.putObj_size];exact HSB.out b hb,.inr HJD.out⟩
theorem groups1_iter (n:Nat) (hn:8<=n) (A0:Option Addr) (c0:Nat) (l:List EdP) (cp:Nat) (R:Nat->Prop) (wE w0:World)
  (hr0:Kd.C k41 wE A0 l.length l) (hE:Below wE.heap.size wE w0) (hcp:w0.cell? ⟨cp,0,none⟩=some (.slice A0 l.length c0))
  (hR0:∀ b,b<wE.heap.size->R b) (hRp:R cp) (hRw:∀ b,R b->b<w0.heap.size) (hmay:mayE l=true) (hrow:∀ e ∈ l,e.f0.length<=4398046511104) :
  IterOn Fence.wide n Tryz.prog 84 #[.pointer (some ⟨cp,0,none⟩)] (runsP l) PhiRun R w0 :=
 (groups1_iterB n hn A0 c0 l cp R wE w0 hr0 hE hcp hR0 hRp hRw hmay hrow).old fun _ _ _ _ h=>h.old
attribute [local go_sem] Oper.semAt_some
theorem runAt_mem:∀ (es:List EdP) (r:List Vl) (js:List Jp) (x:List Vl × List Jp),x ∈ runAt r js es->(x.1=r \/ ∃ e ∈ es,x.1=e.f0)/\x.2.length<=js.length+es.length
 | [],r,js,x,h=>by
  rw[runAt,List.mem_singleton] at h;subst h;exact⟨.inl rfl,by simp⟩
 | e :: es,r,js,x,h=>by
  rw[runAt] at h
  split at h
  ·obtain⟨h1,h2⟩:=runAt_mem es r _ x h
   refine⟨h1.imp id (fun ⟨e',he,hx⟩=>⟨e',List.mem_cons_of_mem _ he,hx⟩),?_⟩;rw[List.length_append] at h2;simp at h2 ⊢;omega
  ·rcases List.mem_cons.1 h with rfl | h
   ·exact⟨.inl rfl,by simp⟩
   ·obtain⟨h1,h2⟩:=runAt_mem es e.f0 _ x h
    refine⟨.inr ?_,?_⟩
    ·rcases h1 with h1 | ⟨e',he,hx⟩
     ·exact⟨e,List.mem_cons_self,h1⟩
     ·exact⟨e',List.mem_cons_of_mem _ he,hx⟩
    ·simp at h2 ⊢
     omega
theorem runs_mem (l:List EdP) (x:List Vl × List Jp) (h:x ∈ runsP l):(∃ e ∈ l,x.1=e.f0)/\x.2.length<=l.length:=by
 cases l with
 | nil=>rw[runsP] at h;cases h
 | cons e es =>
  rw[runsP] at h;obtain⟨h1,h2⟩:=runAt_mem es e.f0 _ x h;refine⟨?_,by simp at h2 ⊢;omega⟩
  rcases h1 with h1 | ⟨e',he,hx⟩
  ·exact⟨e,List.mem_cons_self,h1⟩
  ·exact⟨e',List.mem_cons_of_mem _ he,hx⟩
def mapR (g:List Jp->List Jp × Int) (out:List EdP):List (List Vl × List Jp)->List EdP × Int
 | []=>(out,0)
 | x :: xs=>if (g x.2).2 ≠ 0 then ([],(g x.2).2) else if 4096<(putP out x.1 (g x.2).1).length then ([],7) else mapR g (putP out x.1 (g x.2).1) xs
def mapP (g:List Jp->List Jp × Int) (l:List EdP):List EdP × Int:=mapR g [] (runsP l)
theorem mapR_drop (g:List Jp->List Jp × Int) (out:List EdP) (l:List (List Vl × List Jp)) (k:Nat) (x:List Vl × List Jp) (h:l[k]? = some x) :
  mapR g out (l.drop k)=if (g x.2).2 ≠ 0 then ([],(g x.2).2) else if 4096<(putP out x.1 (g x.2).1).length then ([],7) else mapR g (putP out x.1 (g x.2).1) (l.drop (k+1)):=by
 obtain⟨hk,hx⟩:=List.getElem?_eq_some_iff.1 h;rw[List.drop_eq_getElem_cons hk,hx,mapR]
section
variable {α:Type} {d:Kd α}
theorem box_Rt {e t:TypeId} {B0 Bx:Nat} {W w1:World} {v v1:Value} {xs ys:List α} (hbx:Boxed W Bx t v) (hR:d.R e W B0 (fun _=>True) v xs) (hte:∀ q,q ∈ e :: d.E->q ≠ t)
  (h1:d.R e w1 B0 (fun _=>True) v1 ys) (hg:W.grownBy w1 v.ownBlock) (hat:v1.ownBlock=v.ownBlock \/ ∃ b,v1.ownBlock=some b/\W.heap.size<=b) :
  Boxed w1 Bx t v/\Boxed (w1.setCell ⟨Bx,0,none⟩ v1) Bx t v1/\d.R e (w1.setCell ⟨Bx,0,none⟩ v1) B0 (fun _=>True) v1 ys/\Step (OwnS Bx v) (OwnS Bx v1) W (w1.setCell ⟨Bx,0,none⟩ v1)/\(∀ b,OwnS Bx v1 b->b<(w1.setCell ⟨Bx,0,none⟩ v1).heap.size):=by
 have hb1:Boxed w1 Bx t v:=hbx.kept hg (Kd.R_ne hR hbx (hte e List.mem_cons_self));obtain⟨a,b,c,s,z⟩:=box_R hbx (Kd.R_mono (Kd.R_types hR hbx hte) (fun _ h=>h.2)) (Kd.R_mono (Kd.R_types h1 hb1 hte) (fun _ h=>h.2)) hg hat;exact⟨a,b,Kd.R_mono c (fun _ _=>trivial),s,z⟩
theorem grown_base {e:TypeId} {B0:Nat} {W w1:World} {v:Value} {xs:List α} (hR:d.R e W B0 (fun _=>True) v xs) (hg:W.grownBy w1 v.ownBlock) (h0:B0<=W.heap.size):Below B0 W w1 :=
 ⟨hg.os,hg.tape,hg.output,hg.size,fun b hb=>hg.block b zq4 (fun e'=>by have:=(own_ltR hR e'.symm).1;omega)⟩
end
theorem mapped_calls (g:List Jp->List Jp × Int) (fn:Nat) (cap:Array Value) (A0:Option Addr) (c0:Nat) (l:List EdP) (w:World) (hr0:Kd.C k41 w A0 l.length l) (hl:l.length<=68719476736) (hrow:∀ e ∈ l,e.f0.length<=4398046511104)
  (hfn:∀ args w,(callFunc fn args).run Tryz.prog w = .ok (.enter fn args) w) (hg:∀ f,(g f).1.length<=1000000000)
  (hby:∀ (A:Option Addr) (c:Nat) (f:List Jp) (W1:World),Below w.heap.size w W1->f.length<=l.length->Kd.R kJ 85 W1 0 (fun _=>True) (.slice A f.length c) f ->
   Calls Tryz.prog fn (#[.slice A f.length c] ++ cap) W1 fun e w'=>∃ v,e = .returned (.tuple #[v,.int .i64 (g f).2])/\Kd.R kJ 85 w' 0 (fun _=>True) v (g f).1/\Below W1.heap.size W1 w') :
  Calls Tryz.prog 107 #[.slice A0 l.length c0,.func (.func fn) #[] cap] w fun e w'=>∃ v,e = .returned (.tuple #[v,.int .i64 (mapP g l).2])/\Kd.R kE tE w' w.heap.size (fun _=>True) v (mapP g l).1/\Below w.heap.size w w':=by
 have RC:=Hd (runs_calls A0 c0 l.length);have HR:=Hd hr0;have HRW:=Hd hrow;have HL:=Hd hl;have HG:=Hd hg;have HBY:=Hd hby
 clear hr0 hrow hby hl hg;refine (callsIn_wide (n:=9)).1 ?_;refine callsIn_of_wp_marks Tryz.func107 rfl trivial ?_ rfl;simp only[Tryz.ntmps107,List.size_toArray,List.length_cons,List.length_nil,Nat.reduceAdd,Nat.reduceSub,Array.replicate_succ,Array.replicate_zero,List.push_toArray,List.append_toArray,List.nil_append,List.cons_append]
 gi_wp2_with (refine⟨trivial,?_⟩;(with_reducible refine (callsIn_wide.2 (RC.out _)).mono ?_);rintro e w1 ⟨rfl,rfl⟩)
 obtain⟨W1,hW1⟩:∃ W1,((((w.alloc (.cells #[.func (.func fn) #[] cap] 103 (0,0))).alloc (.cells #[.slice none 0 0] 22 (0,0))).alloc (.cells #[.int .i64 0] 27 (0,0))).alloc (.cells #[] 41 (0,0))).alloc (.cells #[.slice (some ⟨w.heap.size+1+1+1,0,none⟩) 0 0] 22 (0,0))=W1:=⟨_,rfl⟩
 have hsW1:W1.heap.size=w.heap.size+5:=by rw[<- hW1];simp
 have hbW1:Below w.heap.size w W1:=by rw[<- hW1];exact below_alloc (below_alloc (below_alloc (below_alloc (below_alloc (Below.refl _ w) _) _) _) _) _
 have bx3:W1.heap[w.heap.size]? = some (.cells #[.func (.func fn) #[] cap] 103 (0,0)):=by
  have h1:=blk_new (w) (.cells #[.func (.func fn) #[] cap] 103 (0,0));rw[<- hW1];exact blk_alloc (blk_alloc (blk_alloc (blk_alloc (h1) _) _) _) _
 have bx4:W1.heap[w.heap.size+1]? = some (.cells #[.slice none 0 0] 22 (0,0)):=by
  have h1:=blk_new (w.alloc (.cells #[.func (.func fn) #[] cap] 103 (0,0))) (.cells #[.slice none 0 0] 22 (0,0));rw[World.size_alloc] at h1;rw[<- hW1];exact blk_alloc (blk_alloc (blk_alloc (h1) _) _) _
 have bx5:W1.heap[w.heap.size+1+1]? = some (.cells #[.int .i64 0] 27 (0,0)):=by
  have h1:=blk_new ((w.alloc (.cells #[.func (.func fn) #[] cap] 103 (0,0))).alloc (.cells #[.slice none 0 0] 22 (0,0))) (.cells #[.int .i64 0] 27 (0,0));rw[World.size_alloc,World.size_alloc] at h1;rw[<- hW1];exact blk_alloc (blk_alloc (h1) _) _
 have bk0:W1.heap[w.heap.size+1+1+1]? = some (.cells #[] 41 (0,0)):=by
  have h1:=blk_new (((w.alloc (.cells #[.func (.func fn) #[] cap] 103 (0,0))).alloc (.cells #[.slice none 0 0] 22 (0,0))).alloc (.cells #[.int .i64 0] 27 (0,0))) (.cells #[] 41 (0,0));rw[World.size_alloc,World.size_alloc,World.size_alloc] at h1;rw[<- hW1];exact blk_alloc (h1) _
 have bx6:W1.heap[w.heap.size+1+1+1+1]? = some (.cells #[.slice (some ⟨w.heap.size+1+1+1,0,none⟩) 0 0] 22 (0,0)):=by
  have h1:=blk_new ((((w.alloc (.cells #[.func (.func fn) #[] cap] 103 (0,0))).alloc (.cells #[.slice none 0 0] 22 (0,0))).alloc (.cells #[.int .i64 0] 27 (0,0))).alloc (.cells #[] 41 (0,0))) (.cells #[.slice (some ⟨w.heap.size+1+1+1,0,none⟩) 0 0] 22 (0,0));rw[World.size_alloc,World.size_alloc,World.size_alloc,World.size_alloc] at h1;rw[<- hW1];exact h1
 have hit:=runs_iter 8 zq4 A0 c0 l w W1 HR.out hbW1 (by have:=HL.out;omega) HRW.out;obtain⟨its,hits⟩:∃ x,runsP l=x:=⟨_,rfl⟩
 have HIM:=Hd (fun x (h:x ∈ its)=>runs_mem l x (by rw[hits];exact h));have HE:=Hd (show mapP g l=mapR g [] its by unfold mapP;rw[hits]);rw[hits] at hit;have e5:w.heap.size+1+1+1+1+1=W1.heap.size:=by omega
 rw[hW1,e5];obtain⟨W2,hW2⟩:∃ W2,W1.alloc (.cells #[.slice A0 l.length c0] 22 (0,0))=W2:=⟨_,rfl⟩
 have HS2:=Hd (show W2.heap.size=w.heap.size+6 by rw[<- hW2,World.size_alloc,hsW1]);have HS1:=Hd hsW1;have HB2:=Hd (show Below w.heap.size w W2 by rw[<- hW2];exact below_alloc hbW1 _);have HX3:=Hd (show Boxed W2 w.heap.size 103 (.func (.func fn) #[] cap) by rw[<- hW2];exact blk_alloc bx3 _);have HX4:=Hd (show Boxed W2 (w.heap.size+1) 22 (.slice none 0 0) by rw[<- hW2];exact blk_alloc bx4 _);have HX5:=Hd (show Boxed W2 (w.heap.size+1+1) 27 (.int .i64 0) by rw[<- hW2];exact blk_alloc bx5 _);have HX6:=Hd (show Boxed W2 (w.heap.size+1+1+1+1) 22 (.slice (some ⟨w.heap.size+1+1+1,0,none⟩) 0 0) by rw[<- hW2];exact blk_alloc bx6 _);have HO2:=Hd (show Kd.R kE tE W2 w.heap.size (fun _=>True) (.slice (some ⟨w.heap.size+1+1+1,0,none⟩) 0 0) [] from ⟨fun _ _=>trivial,[],⟨rfl,.inr ⟨w.heap.size+1+1+1,0,#[],rfl,by omega,by rw[<- hW2];exact blk_alloc bk0 _,Nat.le_refl _,Nat.zero_le _,rfl,rfl⟩⟩,Reps.none _ _⟩);rw[hW2] at hit ⊢;have HIT:=Hd hit;clear hW1 hW2 hsW1 hbW1 bx3 bx4 bx5 bx6 bk0 hit e5 hits;have hS0:∀ b,(fun b=>OwnS (w.heap.size+1+1+1+1) (.slice (some ⟨w.heap.size+1+1+1,0,none⟩) 0 0) b\/(b=w.heap.size+1\/b=w.heap.size+1+1)) b -> ¬ (b<w.heap.size\/b=W1.heap.size)/\b<W2.heap.size:=by
  intro b hb;have h1:=HS1.out;have h2:=HS2.out
  rcases hb with (rfl | hb) | hb
  ·omega
  ·have:w.heap.size+1+1+1=b:=by simpa [Value.ownBlock] using hb
   omega
  ·omega
 refine range_outer (F:=Fence.wide) rfl zq4 (gf:=125) (lb:=#[.pointer (some ⟨W1.heap.size,0,none⟩)]) rfl trivial (enters_of Tryz.func125 zq17 rfl) HIT.out (Keeps.refl _ _) (fun x args W h=>by obtain⟨_,_,_,_,rfl,_⟩:=h;rfl)
  (fun k S W=>∃ v out,S=(fun b=>OwnS (w.heap.size+1+1+1+1) (v) b\/(b=w.heap.size+1\/b=w.heap.size+1+1))/\Boxed W w.heap.size 103 (.func (.func fn) #[] cap)/\Boxed W (w.heap.size+1) 22 (.slice none 0 0)/\Boxed W (w.heap.size+1+1) 27 (.int .i64 0) /\
   Boxed W (w.heap.size+1+1+1+1) 22 v/\Kd.R kE tE W w.heap.size (fun _=>True) v out/\Below w.heap.size w W/\(out.length<=4096/\mapR g [] its=mapR g out (its.drop k)))
  (fun c S W=>c = .ret /\ ∃ e,Boxed W (w.heap.size+1) 22 (.slice none 0 0)/\Boxed W (w.heap.size+1+1) 27 (.int .i64 e)/\Below w.heap.size w W/\mapR g [] its=([],e))
  (fun x args a' W=>∃ Ar cr Aj cj,args=#[.slice Ar x.1.length cr,.slice Aj x.2.length cj]/\a' = { tmps:=#[.slice A0 l.length c0,.func (.func fn) #[] cap,undef,.pointer (some ⟨w.heap.size,0,none⟩),.pointer (some ⟨w.heap.size+1,0,none⟩),.pointer (some ⟨w.heap.size+1+1,0,none⟩),.pointer (some ⟨w.heap.size+1+1+1+1,0,none⟩),.slice Ar x.1.length cr,.slice Aj x.2.length cj,undef,undef,.slice (some ⟨w.heap.size+1+1+1,0,none⟩) 0 0,.slice A0 l.length c0,.func (.func 125) #[] #[.pointer (some ⟨W1.heap.size,0,none⟩)],.slice Ar x.1.length cr,.slice Aj x.2.length cj,undef,undef,undef,undef,undef,undef,undef,undef,undef,undef,undef,undef,undef,undef,undef,undef,undef],defers:=[] })
  (fun k S=>Grow.ex fun v=>Grow.ex fun out=>(Grow.const _ _).and ((Grow.boxed _ _ _ _).and ((Grow.boxed _ _ _ _).and ((Grow.boxed _ _ _ _).and ((Grow.boxed _ _ _ _).and ((Grow.R _ _ _ _ _ _).and ((Grow.base (by have:=HS2.out;omega) w (Nat.le_refl _)).and (Grow.const _ _))))))))
  (fun c S=>(Grow.const _ _).and (Grow.ex fun e=>(Grow.boxed _ _ _ _).and ((Grow.boxed _ _ _ _).and ((Grow.base (by have:=HS2.out;omega) w (Nat.le_refl _)).and (Grow.const _ _))))) (fun x args=>Grow.phi _ _ _)
  (fun x args a'=>Grow.const _ _)
  (fun b=>OwnS (w.heap.size+1+1+1+1) (.slice (some ⟨w.heap.size+1+1+1,0,none⟩) 0 0) b\/(b=w.heap.size+1\/b=w.heap.size+1+1)) hS0 ⟨_,[],rfl,HX3.out,HX4.out,HX5.out,HX6.out,HO2.out,HB2.out,Nat.zero_le _,by rw[List.drop_zero]⟩ ?assign ?body ?done ?stop
 case assign =>
  rintro l' k S x args W K hx hi ⟨Ar,cr,Aj,cj,rfl,hphi⟩ hK;clear hi hphi;gi_wp2;exact hK _ _ (Below.refl _ W) ⟨Ar,cr,Aj,cj,rfl,rfl⟩
 case body =>
  rintro l' k S x args a' W hl' ⟨r,hr⟩ hx hSb hSl hkR ⟨v,out,rfl,bx3,bx4,bx5,bx6,hRo,hBW,hout,hEE⟩ ⟨Ar,cr,Aj,cj,he1,hRr,hRj⟩ ⟨Ar2,cr2,Aj2,cj2,he2,rfl⟩;rw[he1] at he2;cases he2;dsimp only [];have hxm:=HIM.out x (List.mem_of_getElem? hx);have HH:=Hd (mapR_drop g out its k x hx);have BY:=Hd (fun (w1:World) (h:Below W.heap.size W w1)=>HBY.out Aj cj x.2 w1 (hBW.trans (h.mono hBW.size)) hxm.2 (Kd.R_below hRj h));have hrl:x.1.length<=4398046511104:=by obtain⟨e,he,hx1⟩:=hxm.1;rw[hx1];exact HRW.out e he
  have HRL:=Hd hrl;have HRR:=Hd hRr;have HBX3:=Hd bx3;have HBX4:=Hd bx4;have HBX5:=Hd bx5;have HBX6:=Hd bx6;have HRO:=Hd hRo;have HBW:=Hd hBW;have HEE:=Hd hEE;have HOUT:=Hd hout;have HSB:=Hd hSb;have cl3:=bx3.cell;have cl6:=bx6.cell;clear hRr hRj bx3 bx4 bx5 bx6 hBW hEE hx he1 hSb hSl hkR hr hl' hRo hout hxm hrl;have hgl:=HG.out x.2;obtain⟨⟨gl,ge⟩,hgx⟩:∃ z,g x.2=z:=⟨_,rfl⟩
  rw[hgx] at BY HH hgl;have HGL:=Hd (show gl.length<=1000000000 from hgl);have PC:=Hd (fun (w4:World) (hb4:Below W.heap.size W w4) (Ag:Option Addr) (cg:Nat) (hRg:Kd.R kJ 85 w4 0 (fun _=>True) (.slice Ag gl.length cg) gl)=>put_calls w.heap.size (fun _=>True) v out Ar cr x.1 Ag cg gl w4 (Kd.R_below HRO.out hb4) (Nat.le_trans HBW.out.size hb4.size) (fun _ _=>trivial) (Kd.R_below HRR.out hb4) hRg HRL.out (by have:=HOUT.out;have:=HGL.out;omega));clear hgl hgx
  by_cases he:ge=0
  ·have be:(ge == 0)=true:=by rw[he];rfl
   by_cases hlen:4096<(putP out x.1 gl).length
   ·have bl:decide (((putP out x.1 gl).length:Int) > 4096)=true:=DET zq4
    have HH2:=Hd (show mapR g [] its=([],7) by rw[HEE.out,HH.out,if_neg (by simp[he]),if_pos hlen]);clear hlen he;gi_wp2;refine⟨trivial,?_⟩
    (with_reducible refine (CallsIn.inRound l' (callsIn_wide.2 (BY.out _ (Below.refl _ W)))).mono ?_)
    rintro e w4 ⟨vg,rfl,hRg,hb4⟩;obtain⟨Ag,cg,rfl⟩:=Kd.R_slice hRg;have HRG:=Hd hRg;have HB4:=Hd hb4;clear hRg hb4;have HQ4:=Hd (Boxed.below HBX4.out HB4.out);have HQ5:=Hd (Boxed.below HBX5.out HB4.out);have HQ6:=Hd (Boxed.below HBX6.out HB4.out);have q6:=HQ6.out.cell;have q4:=HQ4.out.cell;have f4:=HQ4.out.frozen;have HQ5':=Hd (Boxed.other HQ5.out (B':=w.heap.size+1) zq4 (.slice none 0 0));have q5:=HQ5'.out.cell;have f5:=HQ5'.out.frozen;have HE1:=Hd (((Step.of_below (S:=(fun b=>OwnS (w.heap.size+1+1+1+1) v b\/(b=w.heap.size+1\/b=w.heap.size+1+1))) HB4.out).trans (step_set (.inr (.inl rfl)) (.slice none 0 0))).trans (step_set (.inr (.inr rfl)) (.int .i64 ge)));have HE1B:=Hd (fun b (hb:(fun b=>OwnS (w.heap.size+1+1+1+1) v b\/(b=w.heap.size+1\/b=w.heap.size+1+1)) b)=>Nat.lt_of_lt_of_le (HSB.out b hb) HE1.out.size);have HE14:=Hd (Boxed.other (HQ4.out.set (.slice none 0 0)) (B':=w.heap.size+1+1) zq4 (.int .i64 ge));have HE15:=Hd (HQ5'.out.set (.int .i64 ge));have HE1W:=Hd (Below.setCell (Below.setCell (HBW.out.trans (HB4.out.mono HBW.out.size)) (p:=⟨w.heap.size+1,0,none⟩) zq61 (.slice none 0 0)) (p:=⟨w.heap.size+1+1,0,none⟩) zq52 (.int .i64 ge));gi_wp2;refine⟨trivial,?_⟩
    (with_reducible refine (CallsIn.inRound l' (callsIn_wide.2 (PC.out _ HB4.out Ag cg HRG.out))).mono ?_)
    rintro e w5 ⟨v1,rfl,hR1,hg1,hat1⟩;obtain⟨A1,c1,rfl⟩:=Kd.R_slice hR1;have HRo4:=Hd (Kd.R_below HRO.out HB4.out);obtain⟨z1,z2,z3,z4,z5⟩:=box_Rt HQ6.out HRo4.out zq34 hR1 hg1 hat1;have HY6:=Hd z2;have HYR:=Hd z3;have c6a:=z1.cell;have f6a:=z1.frozen;have c6b:=z2.cell;have HY:=Hd ((Step.of_below (S:=(fun b=>OwnS (w.heap.size+1+1+1+1) v b\/(b=w.heap.size+1\/b=w.heap.size+1+1))) HB4.out).trans (z4.wide (fun b=>b=w.heap.size+1\/b=w.heap.size+1+1)));have HK3:=Hd ((Boxed.below HBX3.out HB4.out).kept hg1 (Kd.R_ne HRo4.out (Boxed.below HBX3.out HB4.out) zq34));have HK4:=Hd (HQ4.out.kept hg1 (Kd.R_ne HRo4.out HQ4.out zq34));have HK5:=Hd (HQ5.out.kept hg1 (Kd.R_ne HRo4.out HQ5.out zq34));have HY3:=Hd (Boxed.other HK3.out (B':=w.heap.size+1+1+1+1) zq4 (.slice A1 (putP out x.1 gl).length c1));have HY4:=Hd (Boxed.other HK4.out (B':=w.heap.size+1+1+1+1) zq4 (.slice A1 (putP out x.1 gl).length c1));have HY5:=Hd (Boxed.other HK5.out (B':=w.heap.size+1+1+1+1) zq4 (.slice A1 (putP out x.1 gl).length c1));have HYW:=Hd (Below.setCell ((HBW.out.trans (HB4.out.mono HBW.out.size)).trans (grown_base HRo4.out hg1 (Nat.le_trans HBW.out.size HB4.out.size))) (p:=⟨w.heap.size+1+1+1+1,0,none⟩) (by show _<=w.heap.size+1+1+1+1;omega) (.slice A1 (putP out x.1 gl).length c1));have HYB:=Hd (show ∀ b,(fun b=>OwnS (w.heap.size+1+1+1+1) (.slice A1 (putP out x.1 gl).length c1) b\/(b=w.heap.size+1\/b=w.heap.size+1+1)) b->b<(w5.setCell ⟨w.heap.size+1+1+1+1,0,none⟩ (.slice A1 (putP out x.1 gl).length c1)).heap.size from fun b hb=>hb.elim (z5 b) (fun hb=>hb.elim (fun h=>h.symm ▸ HY4.out.lt) (fun h=>h.symm ▸ HY5.out.lt)));have d4:=HY4.out.cell;have g4:=HY4.out.frozen;have HY5':=Hd (Boxed.other HY5.out (B':=w.heap.size+1) zq4 (.slice none 0 0));have d5:=HY5'.out.cell;have g5:=HY5'.out.frozen;have HZS:=Hd ((step_set (S:=(fun b=>OwnS (w.heap.size+1+1+1+1) (.slice A1 (putP out x.1 gl).length c1) b\/(b=w.heap.size+1\/b=w.heap.size+1+1))) (W:=w5.setCell ⟨w.heap.size+1+1+1+1,0,none⟩ (.slice A1 (putP out x.1 gl).length c1)) (.inr (.inl rfl)) (.slice none 0 0)).trans (step_set (.inr (.inr rfl)) (.int .i64 7)));have HZ:=Hd (HY.out.trans HZS.out);have HZB:=Hd (fun b (hb:(fun b=>OwnS (w.heap.size+1+1+1+1) (.slice A1 (putP out x.1 gl).length c1) b\/(b=w.heap.size+1\/b=w.heap.size+1+1)) b)=>Nat.lt_of_lt_of_le (HYB.out b hb) HZS.out.size);have HZ4:=Hd (Boxed.other (HY4.out.set (.slice none 0 0)) (B':=w.heap.size+1+1) zq4 (.int .i64 7));have HZ5:=Hd (HY5'.out.set (.int .i64 7));have HZW:=Hd (Below.setCell (Below.setCell HYW.out (p:=⟨w.heap.size+1,0,none⟩) zq61 (.slice none 0 0)) (p:=⟨w.heap.size+1+1,0,none⟩) zq52 (.int .i64 7));clear z1 z2 z3 z4 z5 hR1 hg1 hat1;gi_wp2;exact⟨_,HZ.out,HZB.out,rfl,7,HZ4.out,HZ5.out,HZW.out,HH2.out⟩
   ·have bl:decide (((putP out x.1 gl).length:Int) > 4096)=false:=DEF zq4
    have HH2:=Hd (show mapR g [] its=mapR g (putP out x.1 gl) (its.drop (k+1)) by rw[HEE.out,HH.out,if_neg (by simp[he]),if_neg hlen]);have HLE:=Hd (show (putP out x.1 gl).length<=4096 by omega);clear hlen he;gi_wp2;refine⟨trivial,?_⟩
    (with_reducible refine (CallsIn.inRound l' (callsIn_wide.2 (BY.out _ (Below.refl _ W)))).mono ?_)
    rintro e w4 ⟨vg,rfl,hRg,hb4⟩;obtain⟨Ag,cg,rfl⟩:=Kd.R_slice hRg;have HRG:=Hd hRg;have HB4:=Hd hb4;clear hRg hb4;have HQ4:=Hd (Boxed.below HBX4.out HB4.out);have HQ5:=Hd (Boxed.below HBX5.out HB4.out);have HQ6:=Hd (Boxed.below HBX6.out HB4.out);have q6:=HQ6.out.cell;have q4:=HQ4.out.cell;have f4:=HQ4.out.frozen;have HQ5':=Hd (Boxed.other HQ5.out (B':=w.heap.size+1) zq4 (.slice none 0 0));have q5:=HQ5'.out.cell;have f5:=HQ5'.out.frozen;have HE1:=Hd (((Step.of_below (S:=(fun b=>OwnS (w.heap.size+1+1+1+1) v b\/(b=w.heap.size+1\/b=w.heap.size+1+1))) HB4.out).trans (step_set (.inr (.inl rfl)) (.slice none 0 0))).trans (step_set (.inr (.inr rfl)) (.int .i64 ge)));have HE1B:=Hd (fun b (hb:(fun b=>OwnS (w.heap.size+1+1+1+1) v b\/(b=w.heap.size+1\/b=w.heap.size+1+1)) b)=>Nat.lt_of_lt_of_le (HSB.out b hb) HE1.out.size);have HE14:=Hd (Boxed.other (HQ4.out.set (.slice none 0 0)) (B':=w.heap.size+1+1) zq4 (.int .i64 ge));have HE15:=Hd (HQ5'.out.set (.int .i64 ge));have HE1W:=Hd (Below.setCell (Below.setCell (HBW.out.trans (HB4.out.mono HBW.out.size)) (p:=⟨w.heap.size+1,0,none⟩) zq61 (.slice none 0 0)) (p:=⟨w.heap.size+1+1,0,none⟩) zq52 (.int .i64 ge));gi_wp2;refine⟨trivial,?_⟩
    (with_reducible refine (CallsIn.inRound l' (callsIn_wide.2 (PC.out _ HB4.out Ag cg HRG.out))).mono ?_)
    rintro e w5 ⟨v1,rfl,hR1,hg1,hat1⟩;obtain⟨A1,c1,rfl⟩:=Kd.R_slice hR1;have HRo4:=Hd (Kd.R_below HRO.out HB4.out);obtain⟨z1,z2,z3,z4,z5⟩:=box_Rt HQ6.out HRo4.out zq34 hR1 hg1 hat1;have HY6:=Hd z2;have HYR:=Hd z3;have c6a:=z1.cell;have f6a:=z1.frozen;have c6b:=z2.cell;have HY:=Hd ((Step.of_below (S:=(fun b=>OwnS (w.heap.size+1+1+1+1) v b\/(b=w.heap.size+1\/b=w.heap.size+1+1))) HB4.out).trans (z4.wide (fun b=>b=w.heap.size+1\/b=w.heap.size+1+1)));have HK3:=Hd ((Boxed.below HBX3.out HB4.out).kept hg1 (Kd.R_ne HRo4.out (Boxed.below HBX3.out HB4.out) zq34));have HK4:=Hd (HQ4.out.kept hg1 (Kd.R_ne HRo4.out HQ4.out zq34));have HK5:=Hd (HQ5.out.kept hg1 (Kd.R_ne HRo4.out HQ5.out zq34));have HY3:=Hd (Boxed.other HK3.out (B':=w.heap.size+1+1+1+1) zq4 (.slice A1 (putP out x.1 gl).length c1));have HY4:=Hd (Boxed.other HK4.out (B':=w.heap.size+1+1+1+1) zq4 (.slice A1 (putP out x.1 gl).length c1));have HY5:=Hd (Boxed.other HK5.out (B':=w.heap.size+1+1+1+1) zq4 (.slice A1 (putP out x.1 gl).length c1));have HYW:=Hd (Below.setCell ((HBW.out.trans (HB4.out.mono HBW.out.size)).trans (grown_base HRo4.out hg1 (Nat.le_trans HBW.out.size HB4.out.size))) (p:=⟨w.heap.size+1+1+1+1,0,none⟩) (by show _<=w.heap.size+1+1+1+1;omega) (.slice A1 (putP out x.1 gl).length c1));have HYB:=Hd (show ∀ b,(fun b=>OwnS (w.heap.size+1+1+1+1) (.slice A1 (putP out x.1 gl).length c1) b\/(b=w.heap.size+1\/b=w.heap.size+1+1)) b->b<(w5.setCell ⟨w.heap.size+1+1+1+1,0,none⟩ (.slice A1 (putP out x.1 gl).length c1)).heap.size from fun b hb=>hb.elim (z5 b) (fun hb=>hb.elim (fun h=>h.symm ▸ HY4.out.lt) (fun h=>h.symm ▸ HY5.out.lt)));have d4:=HY4.out.cell;have g4:=HY4.out.frozen;have HY5':=Hd (Boxed.other HY5.out (B':=w.heap.size+1) zq4 (.slice none 0 0));have d5:=HY5'.out.cell;have g5:=HY5'.out.frozen;have HZS:=Hd ((step_set (S:=(fun b=>OwnS (w.heap.size+1+1+1+1) (.slice A1 (putP out x.1 gl).length c1) b\/(b=w.heap.size+1\/b=w.heap.size+1+1))) (W:=w5.setCell ⟨w.heap.size+1+1+1+1,0,none⟩ (.slice A1 (putP out x.1 gl).length c1)) (.inr (.inl rfl)) (.slice none 0 0)).trans (step_set (.inr (.inr rfl)) (.int .i64 7)));have HZ:=Hd (HY.out.trans HZS.out);have HZB:=Hd (fun b (hb:(fun b=>OwnS (w.heap.size+1+1+1+1) (.slice A1 (putP out x.1 gl).length c1) b\/(b=w.heap.size+1\/b=w.heap.size+1+1)) b)=>Nat.lt_of_lt_of_le (HYB.out b hb) HZS.out.size);have HZ4:=Hd (Boxed.other (HY4.out.set (.slice none 0 0)) (B':=w.heap.size+1+1) zq4 (.int .i64 7));have HZ5:=Hd (HY5'.out.set (.int .i64 7));have HZW:=Hd (Below.setCell (Below.setCell HYW.out (p:=⟨w.heap.size+1,0,none⟩) zq61 (.slice none 0 0)) (p:=⟨w.heap.size+1+1,0,none⟩) zq52 (.int .i64 7));clear z1 z2 z3 z4 z5 hR1 hg1 hat1;gi_wp2;exact⟨_,HY.out,HYB.out,_,putP out x.1 gl,rfl,HY3.out,HY4.out,HY5.out,HY6.out,HYR.out,HYW.out,HLE.out,HH2.out⟩
  ·have be:(ge == 0)=false:=beq_eq_false_iff_ne.2 he
   have HH2:=Hd (show mapR g [] its=([],ge) by rw[HEE.out,HH.out,if_pos he]);clear he;gi_wp2;refine⟨trivial,?_⟩
   (with_reducible refine (CallsIn.inRound l' (callsIn_wide.2 (BY.out _ (Below.refl _ W)))).mono ?_)
   rintro e w4 ⟨vg,rfl,hRg,hb4⟩;obtain⟨Ag,cg,rfl⟩:=Kd.R_slice hRg;have HRG:=Hd hRg;have HB4:=Hd hb4;clear hRg hb4;have HQ4:=Hd (Boxed.below HBX4.out HB4.out);have HQ5:=Hd (Boxed.below HBX5.out HB4.out);have HQ6:=Hd (Boxed.below HBX6.out HB4.out);have q6:=HQ6.out.cell;have q4:=HQ4.out.cell;have f4:=HQ4.out.frozen;have HQ5':=Hd (Boxed.other HQ5.out (B':=w.heap.size+1) zq4 (.slice none 0 0));have q5:=HQ5'.out.cell;have f5:=HQ5'.out.frozen;have HE1:=Hd (((Step.of_below (S:=(fun b=>OwnS (w.heap.size+1+1+1+1) v b\/(b=w.heap.size+1\/b=w.heap.size+1+1))) HB4.out).trans (step_set (.inr (.inl rfl)) (.slice none 0 0))).trans (step_set (.inr (.inr rfl)) (.int .i64 ge)));have HE1B:=Hd (fun b (hb:(fun b=>OwnS (w.heap.size+1+1+1+1) v b\/(b=w.heap.size+1\/b=w.heap.size+1+1)) b)=>Nat.lt_of_lt_of_le (HSB.out b hb) HE1.out.size);have HE14:=Hd (Boxed.other (HQ4.out.set (.slice none 0 0)) (B':=w.heap.size+1+1) zq4 (.int .i64 ge));have HE15:=Hd (HQ5'.out.set (.int .i64 ge));have HE1W:=Hd (Below.setCell (Below.setCell (HBW.out.trans (HB4.out.mono HBW.out.size)) (p:=⟨w.heap.size+1,0,none⟩) zq61 (.slice none 0 0)) (p:=⟨w.heap.size+1+1,0,none⟩) zq52 (.int .i64 ge));gi_wp2;exact⟨_,HE1.out,HE1B.out,rfl,ge,HE14.out,HE15.out,HE1W.out,HH2.out⟩
 case done =>
  rintro D S W hD hSD hst hsb ⟨v,out,rfl,bx3,bx4,bx5,bx6,hRo,hBW,hout,hEE⟩ hK;obtain⟨Av,cv,rfl⟩:=Kd.R_slice hRo;rw[List.drop_length] at hEE;have hE:mapP g l=(out,0):=by rw[HE.out,hEE];rfl
  have HEt:=Hd hE;have hD4:D ≠ w.heap.size+1:=by have:=HS2.out;omega
  have hD5:D ≠ w.heap.size+1+1:=by have:=HS2.out;omega
  have HD:=Hd (show w.heap.size<=D by have:=HS2.out;omega);have cl6:=bx6.cell;have cl4:=bx4.cell;have fr4:=bx4.frozen;have HB4:=Hd (Boxed.other (bx4.set (.slice Av out.length cv)) (B':=w.heap.size+1+1) zq4 (.int .i64 0));have hb5:=Boxed.other bx5 (B':=w.heap.size+1) zq4 (.slice Av out.length cv);have cl5:=hb5.cell;have fr5:=hb5.frozen;have HB5:=Hd (hb5.set (.int .i64 0));have HK2:=Hd (show ((W.setCell ⟨w.heap.size+1,0,none⟩ (.slice Av out.length cv)).setCell ⟨w.heap.size+1+1,0,none⟩ (.int .i64 0)).heap[D]? = some (.deferred (some [])) from ((Below.heap_setCell _ ⟨w.heap.size+1+1,0,none⟩ (.int .i64 0) D hD5).trans (Below.heap_setCell W ⟨w.heap.size+1,0,none⟩ (.slice Av out.length cv) D hD4)).trans hK);have HBY:=Hd (Below.setCell (Below.setCell hBW (p:=⟨w.heap.size+1,0,none⟩) zq61 (.slice Av out.length cv)) (p:=⟨w.heap.size+1+1,0,none⟩) zq52 (.int .i64 0));have HRZ:=Hd ((Grow.R D tE w.heap.size (fun _=>True) (.slice Av out.length cv) out).put (.deferred none) (Kd.R_set (Kd.R_set hRo bx4 zq34 0 (.slice Av out.length cv)) hb5 zq34 0 (.int .i64 0)) (Nat.le_refl D) HK2.out rfl);clear hst hsb hSD bx3 bx4 bx5 bx6 hb5 hRo hBW hEE hK hE;gi_wp2;refine⟨by simp,.inl ⟨_,_,rfl,run_takeDeferred HK2.out,?_⟩⟩;refine⟨_,results_c2 rfl _ _ _ rfl (Boxed.cell (put_boxed HB4.out hD4.symm _)) (oneC_slice (show Tryz.prog.underlying 22=some (.slice 41) by kernel_rfl)) rfl (Boxed.cell (put_boxed HB5.out hD5.symm _)) (oneC_int Tryz.underlying27),_,by rw[HEt.out],?_,below_put (Nat.le_refl _) _ HBY.out HD.out⟩;rw[HEt.out];exact HRZ.out
 case stop =>
  rintro D c S W hD hSD hst hsb ⟨rfl,e,bx4,bx5,hBW,hEE⟩ hK;have hE:mapP g l=([],e):=by rw[HE.out,hEE]
  have HEt:=Hd hE;have hD4:D ≠ w.heap.size+1:=by have:=HS2.out;omega
  have hD5:D ≠ w.heap.size+1+1:=by have:=HS2.out;omega
  have HD:=Hd (show w.heap.size<=D by have:=HS2.out;omega);have HB4:=Hd bx4;have HB5:=Hd bx5;have HBY:=Hd hBW;have HK2:=Hd hK;clear hK hE bx4 bx5 hBW hEE hst hsb hSD;gi_wp2;refine⟨by simp,.inl ⟨_,_,rfl,run_takeDeferred HK2.out,?_⟩⟩;refine⟨_,results_c2 rfl _ _ _ rfl (Boxed.cell (put_boxed HB4.out hD4.symm _)) (oneC_slice (show Tryz.prog.underlying 22=some (.slice 41) by kernel_rfl)) rfl (Boxed.cell (put_boxed HB5.out hD5.symm _)) (oneC_int Tryz.underlying27),_,by rw[HEt.out],?_,below_put (Nat.le_refl _) _ HBY.out HD.out⟩;rw[HEt.out];exact Kd.R_nil _ _ _ _ _
abbrev Ed:=S41
def orI (a b:Int):Int:=if a ≠ 0 then a else b
theorem or_calls (ad:Nat) (a b:Int) (c:Nat) (w:World) (h0:w.cell? ⟨ad,0,none⟩=some (.int .i64 a)) (h1:w.cell? ⟨ad,1,none⟩=some (.int .i64 b)) :
  Calls Tryz.prog 105 #[.slice (some ⟨ad,0,none⟩) 2 c] w fun e w'=>e = .returned (.int .i64 (orI a b))/\Below w.heap.size w w':=by
 have H0:=Hd h0;have H1:=Hd h1;have HB:=Hd (Below.refl w.heap.size w);clear h0 h1;obtain⟨r,hr⟩:∃ r,orI a b=r:=⟨_,rfl⟩
 rw[hr];have HR:=Hd hr;clear hr;go_enter Tryz.func105,Tryz.ntmps105;go_wp2
 go_loopw [8] (fun v8 wr=>∃ i:Nat,i<=2/\v8 = .int .i64 (i:Int)/\Aside0 (0<i->a=0)/\Aside0 (1<i->b=0)/\Aside0 (Below w.heap.size w wr)) (fun v8 wr=>2 - (intOf v8).toNat)
 case atStart=>exact⟨0,by omega,rfl,⟨by omega⟩,⟨by omega⟩,⟨HB.out⟩⟩
 case round =>
  obtain⟨i,hi,rfl,HI0,HI1,HBr⟩:=hrel
  match i with
  | 0 =>
   have x0:=pw_cell_below HBr.out H0.out
   by_cases ha:a=0
   ·subst ha
    go_wp2;go_roundw
    case rel=>exact⟨1,by omega,rfl,⟨by simp⟩,⟨by omega⟩,⟨HBr.out⟩⟩
    case measure=>simp[intOf]
   ·have b1:(a == 0)=false:=beq_eq_false_iff_ne.2 ha
    have HRR:=Hd (show a=r by rw[<- HR.out,orI,if_pos ha]);go_wp2;go_ret;exact⟨by rw[<- HRR.out];rfl,HBr.out⟩
  | 1 =>
   have x0:=pw_cell_below HBr.out H1.out;have ha:=HI0.out zq4;have HRR:=Hd (show b=r by rw[<- HR.out,orI,if_neg zq4])
   by_cases hb:b=0
   ·subst hb
    go_wp2;go_roundw
    case rel=>exact⟨2,by omega,rfl,⟨fun _=>ha⟩,⟨by simp⟩,⟨HBr.out⟩⟩
    case measure=>simp[intOf]
   ·have b1:(b == 0)=false:=beq_eq_false_iff_ne.2 hb
    go_wp2;go_ret;exact⟨by rw[<- HRR.out];rfl,HBr.out⟩
  | 2 =>
   have HRR:=Hd (show (0:Int)=r by rw[<- HR.out,orI,HI0.out zq4,HI1.out zq4];rfl);go_wp2;go_ret;exact⟨by rw[<- HRR.out];rfl,HBr.out⟩
def norm3.T1:Bool × List (List Nat × List Nat):=(true,[([],[]),([0],[0]),([],[]),([2],[2]),([1,3],[1,3]),([],[]),([5],[5]),([],[]),([7],[7]),([6,8,4],[6,8]),([4,9],[4,9]),([10,9],[10]),([11,11,0,1,2,3,4,5,6,7,8,9,10,11],[11])])
def norm3.B1:List Nat:=[0,1,0,4,15,0,32,0,128,511,1023,2047,4095]
theorem norm3.tab1:rtab .any (opsOf Tryz.f104 1)=norm3.T1:=by kernel_rfl
theorem norm3.bits1:waitsOk norm3.T1.2 norm3.B1=true:=by kernel_rfl
theorem norm3_calls (x y:Ed) (A0 B0:Option Addr) (c0 d0:Nat) (w:World) (hr0:Kd.C kV w A0 x.f0.length x.f0) (hr1:Kd.C kV w B0 y.f0.length y.f0) (hc0:x.f0.length<=c0) (hd0:y.f0.length<=d0) :
  Calls Tryz.prog 104 #[.agg #[.slice A0 x.f0.length c0,.int .i64 x.f1,.int .i64 x.f2],.agg #[.slice B0 y.f0.length d0,.int .i64 y.f1,.int .i64 y.f2]] w fun e w'=>e = .returned (.int .i64 (orI (cmpR x.f0 y.f0) (Cmp.icmp x.f1 y.f1)))/\Below w.heap.size w w':=by
 have hu:=Tryz.underlying41;have HA:=Hd hr0;have HBb:=Hd hr1;have HB:=Hd (below_alloc (below_alloc (Below.refl _ w) (.cells #[.slice A0 x.f0.length c0,.int .i64 x.f1,.int .i64 x.f2] 41 (0,0))) (.cells #[.slice B0 y.f0.length d0,.int .i64 y.f1,.int .i64 y.f2] 41 (0,0)));have C1:=Hd (fun (w1:World) (h:Below w.heap.size w w1)=>compare_calls A0 B0 c0 d0 x.f0 y.f0 w1 (Kd.C_below HA.out h) (Kd.C_below HBb.out h) hc0 hd0);have C2:=Hd (fun w1=>cmp_Compare_int.calls x.f1 y.f1 _ w1 (compare_f x.f1 y.f1));clear hr0 hr1;go_enter Tryz.func104,Tryz.ntmps104;go_wp2;generalize hws:(w.alloc (.cells #[.slice A0 x.f0.length c0,.int .i64 x.f1,.int .i64 x.f2] 41 (0,0))).alloc (.cells #[.slice B0 y.f0.length d0,.int .i64 y.f1,.int .i64 y.f2] 41 (0,0))=ws;have HBS:=Hd (show Below w.heap.size w ws by rw[<- hws];exact HB.out);have k0:ws.heap[w.heap.size]? = some (.cells #[.slice A0 x.f0.length c0,.int .i64 x.f1,.int .i64 x.f2] 41 (0,0)):=by rw[<- hws];exact blk_below (blk_new w _) (below_alloc (Below.refl _ _) _)
 have k1:ws.heap[w.heap.size+1]? = some (.cells #[.slice B0 y.f0.length d0,.int .i64 y.f1,.int .i64 y.f2] 41 (0,0)):=by rw[<- hws];have:=blk_new (w.alloc (.cells #[.slice A0 x.f0.length c0,.int .i64 x.f1,.int .i64 x.f2] 41 (0,0))) (.cells #[.slice B0 y.f0.length d0,.int .i64 y.f1,.int .i64 y.f2] 41 (0,0));rwa [World.size_alloc] at this
 clear hws;have K0:=Hd k0;have K1:=Hd k1;have x0:=(blk_cell k0 0).trans (show _=some (.slice A0 x.f0.length c0) from rfl);have x1:=(blk_cell k0 1).trans (show _=some (.int .i64 x.f1) from rfl);have y0:=(blk_cell k1 0).trans (show _=some (.slice B0 y.f0.length d0) from rfl);have y1:=(blk_cell k1 1).trans (show _=some (.int .i64 y.f1) from rfl);clear k0 k1;have x0d:ws.drew.cell? ⟨w.heap.size,0,none⟩=some (.slice A0 x.f0.length c0):=x0;have x1d:ws.drew.cell? ⟨w.heap.size,1,none⟩=some (.int .i64 x.f1):=x1;have y0d:ws.drew.cell? ⟨w.heap.size+1,0,none⟩=some (.slice B0 y.f0.length d0):=y0;have y1d:ws.drew.cell? ⟨w.heap.size+1,1,none⟩=some (.int .i64 y.f1):=y1;have HBD:=Hd (below_drew1 HBS.out);clear x0 x1 y0 y1 HBS K0 K1;refine start_ (n:=13) (S:=fun w'=>w'.cell? ⟨w.heap.size,0,none⟩=some (.slice A0 x.f0.length c0)/\w'.cell? ⟨w.heap.size,1,none⟩=some (.int .i64 x.f1)/\w'.cell? ⟨w.heap.size+1,0,none⟩=some (.slice B0 y.f0.length d0)/\w'.cell? ⟨w.heap.size+1,1,none⟩=some (.int .i64 y.f1)) (ds:=[9,10,11]) #[false,false,false,false,false,false,false,false,false,false,false,false,false] zq17 rfl rfl ⟨x0d,x1d,y0d,y1d⟩ (fun hHeld=>?_);refine with_tabW norm3.tab1 norm3.bits1 (fun HT_ HW_=>?_);refine pZ 0 5 ?_;refine pZ 2 7 ?_;refine pZ 5 10 ?_;refine pZ 7 12 ?_;refine tZ4 1 6 ?_;refine tZ4 3 8 ?_;refine tZ4 6 11 ?_;refine tZ4 8 13 ?_;refine oZ 4 9 (fun K hK=>?_);refine goes_ Tryz.func94 zq17 rfl #[.slice A0 x.f0.length c0,.slice B0 y.f0.length d0] (by rfl) rfl rfl zq67 ?_
 with_reducible refine (C1.out _ HBD.out).mono ?_
 rintro e w3 ⟨rfl,hb3⟩;refine⟨_,rfl,?_⟩;have G3:=Hd hb3;clear hb3;refine hK.out _ _ ⟨pw_cell_below G3.out x0d,pw_cell_below G3.out x1d,pw_cell_below G3.out y0d,pw_cell_below G3.out y1d⟩ (fun hHeld=>?_);clear hK K;refine nZ 9 ?_;refine last_ (i:=9) (N:=some 14) #[true,true,true,true,true,true,true,true,true,true,false,false,false] rfl rfl (one_of HT_.out zq17) zq34 (fun K hK=>?_);refine goes_ Tryz.func106 zq17 rfl #[.int .i64 x.f1,.int .i64 y.f1] (by rfl) rfl rfl zq67 ?_
 with_reducible refine (C2.out _).mono ?_
 rintro e w4 ⟨rfl,hb4⟩;refine⟨_,rfl,?_⟩;have H4:=Hd (show Below w.heap.size w w4 from (HBD.out.trans (G3.out.mono HBD.out.size)).trans (hb4.below.mono (Nat.le_trans HBD.out.size G3.out.size)));clear hb4;refine hK.out _ _ ?_;clear hK K;refine nZ 14 ?_;refine last_ (i:=10) (N:=some 15) #[true,true,true,true,true,true,true,true,true,true,true,false,false] rfl rfl (one_of HT_.out zq17) zq34 (fun K hK=>?_);refine value_ (w1:=?_) (v:=?_) (by rfl) rfl ?_ ?_;rotate_left 2
 ·go_simp
  constructor
  ·rfl
  ·rfl
 refine hK.out _ _ ?_;clear hK K;refine nZ 15 ?_;refine last_ (i:=11) (N:=some 16) #[true,true,true,true,true,true,true,true,true,true,true,true,false] rfl rfl (one_of HT_.out zq17) zq34 (fun K hK=>?_);refine goes_ Tryz.func105 zq17 rfl #[.slice (some ⟨w4.heap.size,0,none⟩) 2 2] (by rfl) rfl rfl zq67 ?_
 with_reducible refine (or_calls w4.heap.size (cmpR x.f0 y.f0) (Cmp.icmp x.f1 y.f1) 2 _ ((blk_cell (blk_new w4 _) 0).trans rfl) ((blk_cell (blk_new w4 _) 1).trans rfl)).mono ?_
 rintro e w5 ⟨rfl,hb5⟩;refine⟨_,rfl,?_⟩;have H5:=Hd ((below_alloc H4.out (.cells #[.int .i64 (cmpR x.f0 y.f0),.int .i64 (Cmp.icmp x.f1 y.f1)] 3 (0,0))).trans (hb5.mono (by rw[World.size_alloc];exact Nat.le_succ_of_le H4.out.size)));clear hb5;refine hK.out _ _ ?_;clear hK K;refine nZ 16 ?_;refine pZ 12 4 ?_;refine done_ (done_of HT_.out zq17) ?_;go_wp2;go_ret;exact⟨rfl,H5.out⟩
theorem norm2_calls (x:S41) (A0:Option Addr) (c0:Nat) (w:World):Calls Tryz.prog 101 #[.agg #[.slice A0 x.f0.length c0,.int .i64 x.f1,.int .i64 x.f2]] w fun e w'=>e = .returned (.bool (timeB x.f1))/\Below w.heap.size w w':=by
 have hu:=Tryz.underlying41;have HB:=Hd (below_alloc (Below.refl _ w) (.cells #[.slice A0 x.f0.length c0,.int .i64 x.f1,.int .i64 x.f2] 41 (0,0)))
 by_cases h:x.f1 < -1
 ·have e:timeB x.f1=true:=by unfold timeB;simp[h]
  have b1:decide (x.f1 < -1)=true:=DET h;rw[e];clear h e;go_enter Tryz.func101,Tryz.ntmps101;go_wp2;go_ret;exact⟨rfl,HB.out⟩
 ·have b1:decide (x.f1 < -1)=false:=DEF h
  obtain⟨b,hb⟩:∃ b,decide (x.f1 > 1125899906842624)=b:=⟨_,rfl⟩
  have e:timeB x.f1=b:=by unfold timeB;rw[b1,Bool.false_or];exact hb
  rw[e];clear h e;cases b
  all_goals
   go_enter Tryz.func101,Tryz.ntmps101;go_wp2;go_ret;exact⟨rfl,HB.out⟩
def argE (x:S41):Bool := !(rowMay x.f0) || (decide (x.f2 > 1048576) || decide (x.f2 < -1048576))
theorem norm1_calls (x:S41) (A0:Option Addr) (c0:Nat) (w:World) (hr0:Kd.C kV w A0 x.f0.length x.f0) (hc0:x.f0.length<=c0):Calls Tryz.prog 100 #[.agg #[.slice A0 x.f0.length c0,.int .i64 x.f1,.int .i64 x.f2]] w fun e w'=>e = .returned (.bool (argE x))/\Below w.heap.size w w':=by
 have hu:=Tryz.underlying41;have HA:=Hd hr0;have HB:=Hd (below_alloc (Below.refl _ w) (.cells #[.slice A0 x.f0.length c0,.int .i64 x.f1,.int .i64 x.f2] 41 (0,0)));have M:=Hd (fun (w1:World) (h:Below w.heap.size w w1)=>row_May.calls A0 c0 x.f0 (rowMay x.f0) w1 (Kd.C_below HA.out h) hc0 rfl);have HN:=Hd (blk_new w (.cells #[.slice A0 x.f0.length c0,.int .i64 x.f1,.int .i64 x.f2] 41 (0,0)));clear hr0;cases hm:rowMay x.f0 with
 | false =>
  have e:argE x=true:=by unfold argE;rw[hm];rfl
  rw[e];rw[hm] at M;clear hm e;go_enter Tryz.func100,Tryz.ntmps100
  go_wp2_with (go_at_call 77;(with_reducible refine (M.out _ HB.out).mono ?_);rintro e w1 ⟨rfl,hb1⟩;have HB2:=Hd (HB.out.trans (hb1.mono HB.out.size));have HX:=Hd (blk_below HN.out hb1);have c2:=(blk_cell HX.out 2).trans (show _=some (.int .i64 x.f2) from rfl);clear hb1)
  go_ret;exact⟨rfl,HB2.out⟩
 | true =>
  rw[hm] at M
  by_cases h:x.f2 > 1048576
  ·have e:argE x=true:=by unfold argE;rw[hm];simp[h]
   have b1:decide (x.f2 > 1048576)=true:=DET h;rw[e];clear hm e;go_enter Tryz.func100,Tryz.ntmps100
   go_wp2_with (go_at_call 77;(with_reducible refine (M.out _ HB.out).mono ?_);rintro e w1 ⟨rfl,hb1⟩;have HB2:=Hd (HB.out.trans (hb1.mono HB.out.size));have HX:=Hd (blk_below HN.out hb1);have c2:=(blk_cell HX.out 2).trans (show _=some (.int .i64 x.f2) from rfl);clear hb1)
   go_ret;exact⟨rfl,HB2.out⟩
  ·have b1:decide (x.f2 > 1048576)=false:=DEF h
   obtain⟨b,hb⟩:∃ b,decide (x.f2 < -1048576)=b:=⟨_,rfl⟩
   have e:argE x=b:=by unfold argE;rw[hm,b1,hb];rfl
   rw[e];clear hm h e;cases b
   all_goals
    go_enter Tryz.func100,Tryz.ntmps100
    go_wp2_with (go_at_call 77;(with_reducible refine (M.out _ HB.out).mono ?_);rintro e w1 ⟨rfl,hb1⟩;have HB2:=Hd (HB.out.trans (hb1.mono HB.out.size));have HX:=Hd (blk_below HN.out hb1);have c2:=(blk_cell HX.out 2).trans (show _=some (.int .i64 x.f2) from rfl);clear hb1)
    go_ret;exact⟨rfl,HB2.out⟩
theorem ix_edge (p:S41->Bool) (fn:Nat) (A0:Option Addr) (c0:Nat) (l:List S41) (w:World)
  (hp:∀ (x:S41) (A:Option Addr) (c:Nat) (w1:World),x ∈ l->Below w.heap.size w w1->Kd.C kV w1 A x.f0.length x.f0->x.f0.length<=c->Calls Tryz.prog fn #[.agg #[.slice A x.f0.length c,.int .i64 x.f1,.int .i64 x.f2]] w1 fun e w'=>e = .returned (.bool (p x))/\Below w1.heap.size w1 w')
  (hfn:∀ args w,(callFunc fn args).run Tryz.prog w = .ok (.enter fn args) w) (hr0:Kd.C k41 w A0 l.length l) (hl:l.length<=17592186044416) :
  Calls Tryz.prog 146 #[.slice A0 l.length c0,.func (Fn.func fn) #[] #[]] w fun e w'=>(∃ r:Int,e = .returned (.int .i64 r)/\decide (0<=r)=l.any p)/\Below w.heap.size w w':=by
 have HR:=Aside0.mk hr0;have HP:=Hd hp;clear hr0 hp;go_enter Tryz.func146,Tryz.ntmps146;go_wp2
 go_loopw [8] (fun v8 wr=>∃ k:Nat,k<=l.length/\v8 = .int .i64 (k:Int)/\Aside0 (∀ x ∈ l.take k,p x=false)/\Aside0 (Below w.heap.size w wr)) (fun v8 wr=>l.length - (intOf v8).toNat)
 case atStart=>exact⟨0,by omega,rfl,⟨by simp⟩,⟨Below.refl _ _⟩⟩
 case round =>
  obtain⟨k,hk,rfl,HN,HB⟩:=hrel
  by_cases c:k<l.length
  ·obtain⟨X,hX⟩:∃ X,l[k]=X:=⟨_,rfl⟩
   obtain⟨ad,Ax,cx,e1,hx0,hx1,hx2,hx3,hx4⟩:=at_T41 (Kd.C_below HR.out HB.out) (k:Int) zq4 zq4;have hrd:rd_T41 l (k:Int)=X:=by
    unfold rd_T41;rw[Int.toNat_natCast,List.getD_eq_getElem?_getD,List.getElem?_eq_getElem c];exact hX
   rw[Int.toNat_natCast,hrd] at hx0 hx1 hx2;rw[hrd] at hx3 hx4;clear hrd;cases e1;have P:=Hd (fun (w1:World) (hb:Below wr.heap.size wr w1)=>HP.out X Ax cx w1 (by rw[<- hX];exact List.getElem_mem c) (HB.out.trans (hb.mono HB.out.size)) (Kd.C_below hx4 hb) hx3);have HX:=Hd hX;clear hX;cases hpx:p X
   ·have P2:=Hd (fun w1 hb=>by have:=P.out w1 hb;rw[hpx] at this;exact this)
    have HPX:=Hd hpx;clear P hpx
    go_wp2_with ((with_reducible refine (P2.out _ (Below.refl _ _)).mono ?_);rintro e w' ⟨rfl,hb⟩)
    go_roundw
    case rel =>
     refine⟨k+1,by omega,by go_num,⟨fun x hx=>?_⟩,⟨HB.out.trans (hb.mono HB.out.size)⟩⟩;have hx':=(ix_mem_take l k c x).1 hx;cases hx' with
     | inl h=>exact HN.out x h
     | inr h=>rw[h,HX];exact HPX
    case measure=>simp[intOf];omega
   ·have P2:=Hd (fun w1 hb=>by have:=P.out w1 hb;rw[hpx] at this;exact this)
    have hany:l.any p=true:=by
     rw[List.any_eq_true];exact⟨X,by rw[<- HX.out];exact List.getElem_mem c,hpx⟩
    have HANY:=Hd hany;clear P hpx hany
    go_wp2_with ((with_reducible refine (P2.out _ (Below.refl _ _)).mono ?_);rintro e w' ⟨rfl,hb⟩)
    go_ret;exact⟨⟨k,rfl,by rw[HANY.out];simp⟩,HB.out.trans (hb.mono HB.out.size)⟩
  ·obtain rfl:k=l.length:=by omega
   have hany:l.any p=false:=by
    rw[List.any_eq_false];intro x hx;have:=HN.out x (by rw[List.take_length];exact hx);simp[this]
   have HANY:=Hd hany;clear hany;go_wp2;go_ret;exact⟨⟨-1,rfl,by rw[HANY.out];rfl⟩,HB.out⟩
theorem has_edge (p:S41->Bool) (fn:Nat) (A0:Option Addr) (c0:Nat) (l:List S41) (w:World)
  (hp:∀ (x:S41) (A:Option Addr) (c:Nat) (w1:World),x ∈ l->Below w.heap.size w w1->Kd.C kV w1 A x.f0.length x.f0->x.f0.length<=c->Calls Tryz.prog fn #[.agg #[.slice A x.f0.length c,.int .i64 x.f1,.int .i64 x.f2]] w1 fun e w'=>e = .returned (.bool (p x))/\Below w1.heap.size w1 w')
  (hfn:∀ args w,(callFunc fn args).run Tryz.prog w = .ok (.enter fn args) w) (hr0:Kd.C k41 w A0 l.length l) (hl:l.length<=17592186044416) :
  Calls Tryz.prog 99 #[.slice A0 l.length c0,.func (Fn.func fn) #[] #[]] w fun e w'=>e = .returned (.bool (l.any p))/\Below w.heap.size w w':=by
 have C:=Hd (ix_edge p fn A0 c0 l w hp hfn hr0 hl);obtain⟨b,hb⟩:∃ b,l.any p=b:=⟨_,rfl⟩
 rw[hb] at C ⊢;clear hp hfn hr0 hl hb;go_enter Tryz.func99,Tryz.ntmps99
 go_wp2_with (go_at_call 146;((with_reducible refine C.out.mono ?_);rintro e w' ⟨⟨r,rfl,hr⟩,hb⟩;have HRR:=Hd hr;clear hr))
 go_ret;exact⟨by rw[<- HRR.out];rfl,hb⟩
end Go.Proofs.YtmkgecapkeojaaaGreat.Eg
end
