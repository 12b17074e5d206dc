/- Texts of this claim, put together by a program: Parts, RunIn, Pairs, JoinP, Alone, HSame, Live, LawF, RefPut, PlT, HRows, HWith. -/
import Derived.Test.YtmkgecapkeojaaaGreatJ11
import Derived.Laws.EntriesVeiled
import Derived.Scope
set_option linter.unusedVariables false
set_option linter.unusedSimpArgs false
set_option maxHeartbeats 8000000
set_option maxRecDepth 100000
section
namespace Go.Proofs.YtmkgecapkeojaaaGreat.Eg
open PDa
open RowKit YtmkgecapkeojaaaGreatW.PrintWords YtmkgecapkeojaaaGreatW.PrintLast YtmkgecapkeojaaaGreatW.PrintMore
open SortM Run Stp Rw
attribute [local go_sem] Oper.semAt_some
abbrev Gq:=List Vl × List Jp
def partsR (hh:List Vl->Bool × Int) (x:Gq) (sum:List Jp):List Gq->List Jp × Int
 | []=>(sum,0)
 | y :: ys=>if (askV hh x sum y).2 ≠ 0 then ([],(askV hh x sum y).2) else partsR hh x (askV hh x sum y).1 ys
theorem partsR_drop (hh:List Vl->Bool × Int) (x:Gq) (sum:List Jp) (l:List Gq) (k:Nat) (y:Gq) (h:l[k]? = some y) :
  partsR hh x sum (l.drop k)=if (askV hh x sum y).2 ≠ 0 then ([],(askV hh x sum y).2) else partsR hh x (askV hh x sum y).1 (l.drop (k+1)):=by
 obtain⟨hk,hx⟩:=List.getElem?_eq_some_iff.1 h;rw[List.drop_eq_getElem_cons hk,hx,partsR]
theorem partners_calls (hh:List Vl->Bool × Int) (x:Gq) (Ar Af A0 A1:Option Addr) (cr cf c0 c1:Nat) (l:List EdP) (ex:List Op8) (w:World) (ha:Kd.C kV w Ar x.1.length x.1/\x.1.length<=cr) (hf:Kd.C kJ w Af x.2.length x.2/\x.2.length<=cf)
  (hr0:Kd.C kE w A0 l.length l) (hrow:∀ e ∈ l,e.f0.length<=4398046511104) (hm:mayE l=true) (hr1:Kd.C kO w A1 ex.length ex) (hc1:ex.length<=c1) (hhk:∀ y ∈ runsP l,(joinV x.1 y.1).2=0 -> ∃ k,eval_Holds.f k ex (joinV x.1 y.1).1=some (hh (joinV x.1 y.1).1)) :
  Calls Tryz.prog 78 #[.slice Ar x.1.length cr,.slice Af x.2.length cf,.slice A0 l.length c0,.slice A1 ex.length c1] w fun e w'=>∃ v,e = .returned (.tuple #[v,.int .i64 (partsR hh x [] (runsP l)).2])/\Kd.R kJ tJ w' w.heap.size (fun _=>True) v (partsR hh x [] (runsP l)).1/\Below w.heap.size w w':=by
 have hu43:Tryz.prog.underlying 43=some (.slice 85):=by kernel_rfl
 have hu39:Tryz.prog.underlying 39=some (.slice 65):=by kernel_rfl
 have hu140:Tryz.prog.underlying 140=some (.func #[39,43] #[27] false):=by kernel_rfl
 have hmf:∀ (fn:Fn) (first cap:Array Value) (w:World),(Instr.makeFunc fn first cap).run Tryz.prog w = .ok (.func fn first cap) w:=fun _ _ _ _=>rfl
 have GC:=Hd (Groups_calls A0 c0 l.length);have HR:=Hd hr0;have HRW:=Hd hrow;have HM:=Hd hm;have HA:=Hd (fun (w1:World) (h:Below w.heap.size w w1)=>And.intro (Kd.C_below ha.1 h) ha.2);have HF:=Hd (fun (w1:World) (h:Below w.heap.size w w1)=>And.intro (Kd.C_below hf.1 h) hf.2);have HX:=Hd (fun (w1:World) (h:Below w.heap.size w w1)=>Kd.C_below hr1 h);have HCX:=Hd hc1;have HHK:=Hd hhk;obtain⟨its,hits⟩:∃ z,runsP l=z:=⟨_,rfl⟩
 rw[hits] at HHK ⊢;have HIT0:=Hd hits;obtain⟨o,ho⟩:∃ o,partsR hh x [] its=o:=⟨_,rfl⟩
 have HO:=Hd ho;rw[ho];obtain⟨nr,hnr⟩:∃ n,x.1.length=n:=⟨_,rfl⟩
 obtain⟨nf,hnf⟩:∃ n,x.2.length=n:=⟨_,rfl⟩
 have HNR:=Hd hnr;have HNF:=Hd hnf;rw[hnr,hnf];clear hr0 hr1 hrow hm ha hf hhk hc1 hits ho hnr hnf;refine (callsIn_wide (n:=20)).1 ?_;refine callsIn_of_wp_marks Tryz.func78 rfl trivial ?_ rfl;simp only[Tryz.ntmps78,List.size_toArray,List.length_cons,List.length_nil,Nat.reduceAdd,Nat.reduceSub,Array.replicate_succ,Array.replicate_zero,List.push_toArray,List.append_toArray,List.nil_append,List.cons_append]
 gi_wp2_with (refine⟨trivial,?_⟩;(with_reducible refine (callsIn_wide.2 (GC.out _)).mono ?_);rintro e w5 ⟨rfl,rfl⟩)
 obtain⟨W1,hW1⟩:∃ W1,(((((((w.alloc (.cells #[.slice Ar nr cr] 39 (0,0))).alloc (.cells #[.slice Af nf cf] 43 (0,0))).alloc (.cells #[.slice A1 ex.length c1] 24 (0,0))).alloc (.cells #[.slice none 0 0] 43 (0,0))).alloc (.cells #[.int .i64 0] 27 (0,0))).alloc (.cells #[] 85 (0,0))).alloc (.cells #[.slice (some ⟨w.heap.size+1+1+1+1+1,0,none⟩) 0 0] 43 (0,0))).alloc (.cells #[.func (.func 119) #[] #[.pointer (some ⟨w.heap.size,0,none⟩),.pointer (some ⟨w.heap.size+1,0,none⟩),.pointer (some ⟨w.heap.size+1+1,0,none⟩),.pointer (some ⟨w.heap.size+1+1+1+1+1+1,0,none⟩)]] 140 (0,0))=W1:=⟨_,rfl⟩
 have hsW1:W1.heap.size=w.heap.size+8:=by rw[<- hW1];simp
 have hbW1:Below w.heap.size w W1:=by rw[<- hW1];exact below_alloc (below_alloc (below_alloc (below_alloc (below_alloc (below_alloc (below_alloc (below_alloc (Below.refl _ w) _) _) _) _) _) _) _) _
 have k4:W1.heap[w.heap.size]? = some (.cells #[.slice Ar nr cr] 39 (0,0)):=by
  have h1:=blk_new (w) (.cells #[.slice Ar nr cr] 39 (0,0));rw[<- hW1];exact blk_alloc (blk_alloc (blk_alloc (blk_alloc (blk_alloc (blk_alloc (blk_alloc (h1) _) _) _) _) _) _) _
 have k5:W1.heap[w.heap.size+1]? = some (.cells #[.slice Af nf cf] 43 (0,0)):=by
  have h1:=blk_new (w.alloc (.cells #[.slice Ar nr cr] 39 (0,0))) (.cells #[.slice Af nf cf] 43 (0,0));rw[World.size_alloc] at h1;rw[<- hW1];exact blk_alloc (blk_alloc (blk_alloc (blk_alloc (blk_alloc (blk_alloc (h1) _) _) _) _) _) _
 have k7:W1.heap[w.heap.size+1+1]? = some (.cells #[.slice A1 ex.length c1] 24 (0,0)):=by
  have h1:=blk_new ((w.alloc (.cells #[.slice Ar nr cr] 39 (0,0))).alloc (.cells #[.slice Af nf cf] 43 (0,0))) (.cells #[.slice A1 ex.length c1] 24 (0,0));rw[World.size_alloc,World.size_alloc] at h1;rw[<- hW1];exact blk_alloc (blk_alloc (blk_alloc (blk_alloc (blk_alloc (h1) _) _) _) _) _
 have k8:W1.heap[w.heap.size+1+1+1]? = some (.cells #[.slice none 0 0] 43 (0,0)):=by
  have h1:=blk_new (((w.alloc (.cells #[.slice Ar nr cr] 39 (0,0))).alloc (.cells #[.slice Af nf cf] 43 (0,0))).alloc (.cells #[.slice A1 ex.length c1] 24 (0,0))) (.cells #[.slice none 0 0] 43 (0,0));rw[World.size_alloc,World.size_alloc,World.size_alloc] at h1;rw[<- hW1];exact blk_alloc (blk_alloc (blk_alloc (blk_alloc (h1) _) _) _) _
 have k9:W1.heap[w.heap.size+1+1+1+1]? = some (.cells #[.int .i64 0] 27 (0,0)):=by
  have h1:=blk_new ((((w.alloc (.cells #[.slice Ar nr cr] 39 (0,0))).alloc (.cells #[.slice Af nf cf] 43 (0,0))).alloc (.cells #[.slice A1 ex.length c1] 24 (0,0))).alloc (.cells #[.slice none 0 0] 43 (0,0))) (.cells #[.int .i64 0] 27 (0,0));rw[World.size_alloc,World.size_alloc,World.size_alloc,World.size_alloc] at h1;rw[<- hW1];exact blk_alloc (blk_alloc (blk_alloc (h1) _) _) _
 have kk:W1.heap[w.heap.size+1+1+1+1+1]? = some (.cells #[] 85 (0,0)):=by
  have h1:=blk_new (((((w.alloc (.cells #[.slice Ar nr cr] 39 (0,0))).alloc (.cells #[.slice Af nf cf] 43 (0,0))).alloc (.cells #[.slice A1 ex.length c1] 24 (0,0))).alloc (.cells #[.slice none 0 0] 43 (0,0))).alloc (.cells #[.int .i64 0] 27 (0,0))) (.cells #[] 85 (0,0));rw[World.size_alloc,World.size_alloc,World.size_alloc,World.size_alloc,World.size_alloc] at h1;rw[<- hW1];exact blk_alloc (blk_alloc (h1) _) _
 have k10:W1.heap[w.heap.size+1+1+1+1+1+1]? = some (.cells #[.slice (some ⟨w.heap.size+1+1+1+1+1,0,none⟩) 0 0] 43 (0,0)):=by
  have h1:=blk_new ((((((w.alloc (.cells #[.slice Ar nr cr] 39 (0,0))).alloc (.cells #[.slice Af nf cf] 43 (0,0))).alloc (.cells #[.slice A1 ex.length c1] 24 (0,0))).alloc (.cells #[.slice none 0 0] 43 (0,0))).alloc (.cells #[.int .i64 0] 27 (0,0))).alloc (.cells #[] 85 (0,0))) (.cells #[.slice (some ⟨w.heap.size+1+1+1+1+1,0,none⟩) 0 0] 43 (0,0));rw[World.size_alloc,World.size_alloc,World.size_alloc,World.size_alloc,World.size_alloc,World.size_alloc] at h1;rw[<- hW1];exact blk_alloc (h1) _
 have k11:W1.heap[w.heap.size+1+1+1+1+1+1+1]? = some (.cells #[.func (.func 119) #[] #[.pointer (some ⟨w.heap.size,0,none⟩),.pointer (some ⟨w.heap.size+1,0,none⟩),.pointer (some ⟨w.heap.size+1+1,0,none⟩),.pointer (some ⟨w.heap.size+1+1+1+1+1+1,0,none⟩)]] 140 (0,0)):=by
  have h1:=blk_new (((((((w.alloc (.cells #[.slice Ar nr cr] 39 (0,0))).alloc (.cells #[.slice Af nf cf] 43 (0,0))).alloc (.cells #[.slice A1 ex.length c1] 24 (0,0))).alloc (.cells #[.slice none 0 0] 43 (0,0))).alloc (.cells #[.int .i64 0] 27 (0,0))).alloc (.cells #[] 85 (0,0))).alloc (.cells #[.slice (some ⟨w.heap.size+1+1+1+1+1,0,none⟩) 0 0] 43 (0,0))) (.cells #[.func (.func 119) #[] #[.pointer (some ⟨w.heap.size,0,none⟩),.pointer (some ⟨w.heap.size+1,0,none⟩),.pointer (some ⟨w.heap.size+1+1,0,none⟩),.pointer (some ⟨w.heap.size+1+1+1+1+1+1,0,none⟩)]] 140 (0,0));rw[World.size_alloc,World.size_alloc,World.size_alloc,World.size_alloc,World.size_alloc,World.size_alloc,World.size_alloc] at h1;rw[<- hW1];exact h1
 have hit:=groups_iter 19 zq4 A0 c0 l w W1 HR.out hbW1 HM.out HRW.out;rw[HIT0.out] at hit;have HIL:=Hd (show its.length<=4096 by rw[<- HIT0.out];exact Nat.le_trans (runs_len l) (mayE_len HM.out));have e8:w.heap.size+1+1+1+1+1+1+1+1=W1.heap.size:=by omega
 rw[hW1,e8];obtain⟨W2,hW2⟩:∃ W2,W1.alloc (.cells #[.slice A0 l.length c0] 22 (0,0))=W2:=⟨_,rfl⟩
 have HS2:=Hd (show W2.heap.size=w.heap.size+9 by rw[<- hW2,World.size_alloc,hsW1]);have HS1:=Hd hsW1;have HB2:=Hd (show Below w.heap.size w W2 by rw[<- hW2];exact below_alloc hbW1 _);have HX4:=Hd (show Boxed W2 (w.heap.size) 39 (.slice Ar nr cr) by rw[<- hW2];exact blk_alloc k4 _);have HX5:=Hd (show Boxed W2 (w.heap.size+1) 43 (.slice Af nf cf) by rw[<- hW2];exact blk_alloc k5 _);have HX7:=Hd (show Boxed W2 (w.heap.size+1+1) 24 (.slice A1 ex.length c1) by rw[<- hW2];exact blk_alloc k7 _);have HX8:=Hd (show Boxed W2 (w.heap.size+1+1+1) 43 (.slice none 0 0) by rw[<- hW2];exact blk_alloc k8 _);have HX9:=Hd (show Boxed W2 (w.heap.size+1+1+1+1) 27 (.int .i64 0) by rw[<- hW2];exact blk_alloc k9 _);have HX10:=Hd (show Boxed W2 (w.heap.size+1+1+1+1+1+1) 43 (.slice (some ⟨w.heap.size+1+1+1+1+1,0,none⟩) 0 0) by rw[<- hW2];exact blk_alloc k10 _);have HX11:=Hd (show Boxed W2 (w.heap.size+1+1+1+1+1+1+1) 140 (.func (.func 119) #[] #[.pointer (some ⟨w.heap.size,0,none⟩),.pointer (some ⟨w.heap.size+1,0,none⟩),.pointer (some ⟨w.heap.size+1+1,0,none⟩),.pointer (some ⟨w.heap.size+1+1+1+1+1+1,0,none⟩)]) by rw[<- hW2];exact blk_alloc k11 _);have HO2:=Hd (show Kd.R kJ tJ W2 w.heap.size (fun _=>True) (.slice (some ⟨w.heap.size+1+1+1+1+1,0,none⟩) 0 0) [] from ⟨fun _ _=>trivial,[],⟨rfl,.inr ⟨w.heap.size+1+1+1+1+1,0,#[],rfl,by omega,by rw[<- hW2];exact blk_alloc kk _,Nat.le_refl _,Nat.zero_le _,rfl,rfl⟩⟩,Reps.none _ _⟩);rw[hW2] at hit ⊢;have HIT:=Hd hit;clear hW1 hW2 hsW1 hbW1 k4 k5 k7 k8 k9 kk k10 k11 hit e8;have hS0:∀ b,(fun b=>b=w.heap.size+1+1+1+1+1+1\/(b=w.heap.size+1+1+1\/b=w.heap.size+1+1+1+1)) b -> ¬ (b<w.heap.size\/b=W1.heap.size)/\b<W2.heap.size:=by
  intro b hb;have h1:=HS1.out;have h2:=HS2.out
  rcases hb with rfl | hb | hb <;> omega
 refine range_outer (F:=Fence.wide) rfl zq4 (gf:=84) (lb:=#[.pointer (some ⟨W1.heap.size,0,none⟩)]) rfl trivial (enters_of Tryz.func84 zq17 rfl) HIT.out (Keeps.refl _ _) (fun x args W h=>by obtain⟨_,_,_,_,rfl,_⟩:=h;rfl)
  (fun k S W=>∃ A c sum,S=(fun b=>b=w.heap.size+1+1+1+1+1+1\/(b=w.heap.size+1+1+1\/b=w.heap.size+1+1+1+1))/\(Boxed W (w.heap.size) 39 (.slice Ar nr cr)/\Boxed W (w.heap.size+1) 43 (.slice Af nf cf)/\Boxed W (w.heap.size+1+1) 24 (.slice A1 ex.length c1)/\Boxed W (w.heap.size+1+1+1) 43 (.slice none 0 0)/\Boxed W (w.heap.size+1+1+1+1) 27 (.int .i64 0)/\Boxed W (w.heap.size+1+1+1+1+1+1+1) 140 (.func (.func 119) #[] #[.pointer (some ⟨w.heap.size,0,none⟩),.pointer (some ⟨w.heap.size+1,0,none⟩),.pointer (some ⟨w.heap.size+1+1,0,none⟩),.pointer (some ⟨w.heap.size+1+1+1+1+1+1,0,none⟩)]))/\Boxed W (w.heap.size+1+1+1+1+1+1) 43 (.slice A sum.length c)/\Kd.R kJ tJ W w.heap.size (fun _=>True) (.slice A sum.length c) sum/\Below w.heap.size w W/\partsR hh x [] its=partsR hh x sum (its.drop k))
  (fun c S W=>c = .ret /\ ∃ e,Boxed W (w.heap.size+1+1+1) 43 (.slice none 0 0)/\Boxed W (w.heap.size+1+1+1+1) 27 (.int .i64 e)/\Below w.heap.size w W/\partsR hh x [] its=([],e)/\e ≠ 0)
  (fun y args a' W=>∃ Aq cq Aj cj,args=#[.slice Aq y.1.length cq,.slice Aj y.2.length cj]/\a' = { tmps:=#[.slice Ar nr cr,.slice Af nf cf,.slice A0 l.length c0,.slice A1 ex.length c1,.pointer (some ⟨w.heap.size,0,none⟩),.pointer (some ⟨w.heap.size+1,0,none⟩),undef,.pointer (some ⟨w.heap.size+1+1,0,none⟩),.pointer (some ⟨w.heap.size+1+1+1,0,none⟩),.pointer (some ⟨w.heap.size+1+1+1+1,0,none⟩),.pointer (some ⟨w.heap.size+1+1+1+1+1+1,0,none⟩),.pointer (some ⟨w.heap.size+1+1+1+1+1+1+1,0,none⟩),.slice Aq y.1.length cq,.slice Aj y.2.length cj,undef,.slice (some ⟨w.heap.size+1+1+1+1+1,0,none⟩) 0 0,.func (.func 119) #[] #[.pointer (some ⟨w.heap.size,0,none⟩),.pointer (some ⟨w.heap.size+1,0,none⟩),.pointer (some ⟨w.heap.size+1+1,0,none⟩),.pointer (some ⟨w.heap.size+1+1+1+1+1+1,0,none⟩)],.slice A0 l.length c0,.func (.func 84) #[] #[.pointer (some ⟨W1.heap.size,0,none⟩)],.slice Aq y.1.length cq,.slice Aj y.2.length cj,undef,undef,undef,undef,undef,undef,undef,undef],defers:=[] })
  (fun k S=>Grow.ex fun A=>Grow.ex fun c=>Grow.ex fun sum=>(Grow.const _ _).and (((Grow.boxed _ _ _ _).and ((Grow.boxed _ _ _ _).and ((Grow.boxed _ _ _ _).and ((Grow.boxed _ _ _ _).and ((Grow.boxed _ _ _ _).and (Grow.boxed _ _ _ _)))))).and ((Grow.boxed _ _ _ _).and ((Grow.R _ _ _ _ _ _).and ((Grow.base (by have:=HS2.out;omega) w (Nat.le_refl _)).and (Grow.const _ _))))))
  (fun c S=>(Grow.const _ _).and (Grow.ex fun e=>(Grow.boxed _ _ _ _).and ((Grow.boxed _ _ _ _).and ((Grow.base (by have:=HS2.out;omega) w (Nat.le_refl _)).and (Grow.const _ _))))) (fun y args=>Grow.phi _ _ _)
  (fun y args a'=>Grow.const _ _)
  (fun b=>b=w.heap.size+1+1+1+1+1+1\/(b=w.heap.size+1+1+1\/b=w.heap.size+1+1+1+1)) hS0 ⟨_,_,[],rfl,⟨HX4.out,HX5.out,HX7.out,HX8.out,HX9.out,HX11.out⟩,HX10.out,HO2.out,HB2.out,by rw[List.drop_zero]⟩ ?assign ?body ?done ?stop
 case assign =>
  rintro l' k S y args W K hx hi ⟨Aq,cq,Aj,cj,rfl,hphi⟩ hK;clear hi hphi;gi_wp2;exact hK _ _ (Below.refl _ W) ⟨Aq,cq,Aj,cj,rfl,rfl⟩
 case body =>
  rintro l' k S y args a' W hl' ⟨r0,hr0⟩ hx hSb hSl hkR ⟨A,c,sum,rfl,⟨bx4,bx5,bx7,bx8,bx9,bx11⟩,bx10,hRs,hBW,hEE⟩ ⟨Aq,cq,Aj,cj,he1,hRr,hRj⟩ ⟨Aq2,cq2,Aj2,cj2,he2,rfl⟩;rw[he1] at he2;cases he2;have HH:=Hd (partsR_drop hh x sum its k y hx);have hym:=List.mem_of_getElem? hx;have HV:=Hd (ask_calls hh x y sum Ar Aq Af Aj A1 A cr cq cf cj c1 c ex (w.heap.size) (w.heap.size+1) (w.heap.size+1+1) (w.heap.size+1+1+1+1+1+1) w.heap.size W (HA.out W hBW) hRr (HF.out W hBW) hRj (HX.out W hBW) HCX.out (HHK.out y hym) (by rw[HNR.out];exact bx4) (by rw[HNF.out];exact bx5) bx7 bx10 hRs hBW.size);obtain⟨⟨sn,es⟩,hq⟩:∃ z,askV hh x sum y=z:=⟨_,rfl⟩
  rw[hq] at HV HH;have HBX4:=Hd bx4;have HBX5:=Hd bx5;have HBX7:=Hd bx7;have HBX8:=Hd bx8;have HBX9:=Hd bx9;have HBX11:=Hd bx11;have HBW:=Hd hBW;have HEE:=Hd hEE;have HSB:=Hd hSb;have cl11:=bx11.cell;clear hRr hRj bx4 bx5 bx7 bx8 bx9 bx10 bx11 hBW hEE hx he1 hSb hSl hkR hr0 hl' hRs hym hq;gi_wp2;refine⟨trivial,?_⟩;refine (CallsIn.inRound l' (callsIn_wide.2 HV.out)).mono ?_;rintro e w6 ⟨An,cn,rfl,hb10,hRn,hst⟩;have hRn:Kd.R kJ tJ w6 w.heap.size (fun _=>True) (.slice An sn.length cn) sn:=hRn;have HQ4:=Hd (hst.boxed HBX4.out (show ¬ (w.heap.size=w.heap.size+1+1+1+1+1+1) by omega));have HQ5:=Hd (hst.boxed HBX5.out (show ¬ (w.heap.size+1=w.heap.size+1+1+1+1+1+1) by omega));have HQ7:=Hd (hst.boxed HBX7.out (show ¬ (w.heap.size+1+1=w.heap.size+1+1+1+1+1+1) by omega));have HQ8:=Hd (hst.boxed HBX8.out (show ¬ (w.heap.size+1+1+1=w.heap.size+1+1+1+1+1+1) by omega));have HQ9:=Hd (hst.boxed HBX9.out (show ¬ (w.heap.size+1+1+1+1=w.heap.size+1+1+1+1+1+1) by omega));have HQ11:=Hd (hst.boxed HBX11.out (show ¬ (w.heap.size+1+1+1+1+1+1+1=w.heap.size+1+1+1+1+1+1) by omega));have HQ10:=Hd (show Boxed w6 (w.heap.size+1+1+1+1+1+1) 43 (.slice An sn.length cn) from hb10);have HRN:=Hd hRn;have HBN:=Hd (HBW.out.trans (Step.below hst HBW.out.size (fun b (hb:b=w.heap.size+1+1+1+1+1+1)=>by omega)));have HST:=Hd (hst.wide (fun b=>b=w.heap.size+1+1+1\/b=w.heap.size+1+1+1+1));clear hb10 hRn hst cl11 HV
  by_cases hee:es=0
  ·have be:(es == 0)=true:=by rw[hee];rfl
   have HH2:=Hd (show partsR hh x [] its=partsR hh x sn (its.drop (k+1)) by rw[HEE.out,HH.out,if_neg (by simp[hee])]);clear hee;gi_wp2;exact⟨_,HST.out,fun b hb=>Nat.lt_of_lt_of_le (HSB.out b hb) HST.out.size,An,cn,sn,rfl,⟨HQ4.out,HQ5.out,HQ7.out,HQ8.out,HQ9.out,HQ11.out⟩,HQ10.out,HRN.out,HBN.out,HH2.out⟩
  ·have be:(es == 0)=false:=beq_eq_false_iff_ne.2 hee
   have HNE:=Hd hee;have HH2:=Hd (show partsR hh x [] its=([],es) by rw[HEE.out,HH.out,if_pos hee]);clear hee;have q4:=HQ8.out.cell;have f4:=HQ8.out.frozen;have HQ9':=Hd (Boxed.other HQ9.out (B':=w.heap.size+1+1+1) zq4 (.slice none 0 0));have q5:=HQ9'.out.cell;have f5:=HQ9'.out.frozen;have HE1:=Hd ((HST.out.trans (step_set (.inr (.inl rfl)) (.slice none 0 0))).trans (step_set (.inr (.inr rfl)) (.int .i64 es)));have HE14:=Hd (Boxed.other (HQ8.out.set (.slice none 0 0)) (B':=w.heap.size+1+1+1+1) zq4 (.int .i64 es));have HE15:=Hd (HQ9'.out.set (.int .i64 es));have HE1W:=Hd (Below.setCell (Below.setCell HBN.out (p:=⟨w.heap.size+1+1+1,0,none⟩) (by show _<=w.heap.size+1+1+1;omega) (.slice none 0 0)) (p:=⟨w.heap.size+1+1+1+1,0,none⟩) (by show _<=w.heap.size+1+1+1+1;omega) (.int .i64 es));gi_wp2
   first
    | exact⟨_,HE1.out,fun b hb=>Nat.lt_of_lt_of_le (HSB.out b hb) HE1.out.size,rfl,HE14.out,es,HE15.out,HE1W.out,HH2.out,HNE.out⟩
    | exact⟨_,HE1.out,fun b hb=>Nat.lt_of_lt_of_le (HSB.out b hb) HE1.out.size,rfl,es,HE14.out,HE15.out,HE1W.out,HH2.out,HNE.out⟩
 case done =>
  rintro D S W hD hSD hst hsb ⟨A,c,sum,rfl,⟨bx4,bx5,bx7,bx8,bx9,bx11⟩,bx10,hRo,hBW,hEE⟩ hK;rw[List.drop_length] at hEE;have HEt:=Hd (show o=(sum,0) by rw[<- HO.out,hEE];rfl);have hD4:D ≠ w.heap.size+1+1+1:=by have:=HS2.out;omega
  have hD5:D ≠ w.heap.size+1+1+1+1:=by have:=HS2.out;omega
  have HD:=Hd (show w.heap.size<=D by have:=HS2.out;omega);have cl7:=bx10.cell;have cl4:=bx8.cell;have fr4:=bx8.frozen;have HB4':=Hd (Boxed.other (bx8.set (.slice A sum.length c)) (B':=w.heap.size+1+1+1+1) zq4 (.int .i64 0));have hb5:=Boxed.other bx9 (B':=w.heap.size+1+1+1) zq4 (.slice A sum.length c);have cl5:=hb5.cell;have fr5:=hb5.frozen;have HB5':=Hd (hb5.set (.int .i64 0));have HK2:=Hd (show ((W.setCell ⟨w.heap.size+1+1+1,0,none⟩ (.slice A sum.length c)).setCell ⟨w.heap.size+1+1+1+1,0,none⟩ (.int .i64 0)).heap[D]? = some (.deferred (some [])) from ((Below.heap_setCell _ ⟨w.heap.size+1+1+1+1,0,none⟩ (.int .i64 0) D hD5).trans (Below.heap_setCell W ⟨w.heap.size+1+1+1,0,none⟩ (.slice A sum.length c) D hD4)).trans hK);have HBY:=Hd (Below.setCell (Below.setCell hBW (p:=⟨w.heap.size+1+1+1,0,none⟩) (by show _<=w.heap.size+1+1+1;omega) (.slice A sum.length c)) (p:=⟨w.heap.size+1+1+1+1,0,none⟩) (by show _<=w.heap.size+1+1+1+1;omega) (.int .i64 0));have HRZ:=Hd ((Grow.R D tJ w.heap.size (fun _=>True) (.slice A sum.length c) sum).put (.deferred none) (Kd.R_set (Kd.R_set hRo bx8 zq34 0 (.slice A sum.length c)) hb5 zq34 0 (.int .i64 0)) (Nat.le_refl D) HK2.out rfl);clear hst hsb hSD bx4 bx5 bx7 bx8 bx9 bx10 bx11 hb5 hRo hBW hEE hK;gi_wp2;refine⟨by simp,.inl ⟨_,_,rfl,run_takeDeferred HK2.out,?_⟩⟩;refine⟨_,results_c2 rfl _ _ _ rfl (Boxed.cell (put_boxed HB4'.out hD4.symm _)) (oneC_slice hu43) rfl (Boxed.cell (put_boxed HB5'.out hD5.symm _)) (oneC_int Tryz.underlying27),_,by rw[HEt.out],?_,below_put (Nat.le_refl _) _ HBY.out HD.out⟩;rw[HEt.out];exact HRZ.out
 case stop =>
  rintro D c S W hD hSD hst hsb ⟨rfl,e,bx8,bx9,hBW,hEE,hne⟩ hK;have HEt:=Hd (show o=([],e) by rw[<- HO.out,hEE]);have hD4:D ≠ w.heap.size+1+1+1:=by have:=HS2.out;omega
  have hD5:D ≠ w.heap.size+1+1+1+1:=by have:=HS2.out;omega
  have HD:=Hd (show w.heap.size<=D by have:=HS2.out;omega);have HB4':=Hd bx8;have HB5':=Hd bx9;have HBY:=Hd hBW;have HK2:=Hd hK;clear hK bx8 bx9 hBW hEE hst hsb hSD hne;gi_wp2;refine⟨by simp,.inl ⟨_,_,rfl,run_takeDeferred HK2.out,?_⟩⟩;refine⟨_,results_c2 rfl _ _ _ rfl (Boxed.cell (put_boxed HB4'.out hD4.symm _)) (oneC_slice hu43) rfl (Boxed.cell (put_boxed HB5'.out hD5.symm _)) (oneC_int Tryz.underlying27),_,by rw[HEt.out],?_,below_put (Nat.le_refl _) _ HBY.out HD.out⟩;rw[HEt.out];exact Kd.R_nil _ _ _ _ _
end Go.Proofs.YtmkgecapkeojaaaGreat.Eg
end
section
namespace Go.Proofs.YtmkgecapkeojaaaGreat.Run
open Go RowKit
section
variable {F:Fence} {n:Nat} {P:Program} {β:Type}
theorem IterOnB.inRound {gf:Nat} {lb:Array Value} {items:List β} {Φ:β->Array Value->Nat->World->Prop} {R:Nat->Prop} {w0:World} (l:Nat) (h:IterOnB F n P gf lb items Φ R w0):IterOnB (F.inRound l) n P gf lb items Φ R w0:=h
end
end Go.Proofs.YtmkgecapkeojaaaGreat.Run
end
section
namespace Go.Proofs.YtmkgecapkeojaaaGreat.Eg
open PDa
open RowKit YtmkgecapkeojaaaGreatW.PrintWords YtmkgecapkeojaaaGreatW.PrintLast YtmkgecapkeojaaaGreatW.PrintMore
open SortM Run Stp Rw
attribute [local go_sem] Oper.semAt_some
abbrev Gr:=List Vl × List Jp
theorem R_step {α:Type} {d:Kd α} {e base:Nat} {ok:Nat->Prop} {v:Value} {xs:List α} {S S':Nat->Prop} {W W':World} (h:d.R e W base ok v xs) (hs:Step S S' W W') (hS:∀ b,S b->b<base):d.R e W' base ok v xs :=
 Kd.R_mono (Kd.R_move (Kd.R_bound h) fun k hk=>hs.keep k hk.2.2.1 (fun hsk=>by have:=hS k hsk;have:=hk.2.1;omega)) (fun _ hk=>hk.1)
attribute [local go_sem] Oper.semAt_some
attribute [local go_sem] Oper.semAt_some
def alR (hh:List Vl->Bool × Int) (R:List Gq) (out:List EdP):List Gq->List EdP × Int
 | []=>(out,0)
 | x :: xs=>if (partsR hh x [] R).2 ≠ 0 then ([],(partsR hh x [] R).2) else if (bothV whereO x.2 (partsR hh x [] R).1).2 ≠ 0 then ([],(bothV whereO x.2 (partsR hh x [] R).1).2) else
  alR hh R (out ++ buildP x.1 (bothV whereO x.2 (partsR hh x [] R).1).1) xs
theorem alR_drop (hh:List Vl->Bool × Int) (R:List Gq) (out:List EdP) (l:List Gq) (k:Nat) (x:Gq) (h:l[k]? = some x) :
  alR hh R out (l.drop k)=if (partsR hh x [] R).2 ≠ 0 then ([],(partsR hh x [] R).2) else if (bothV whereO x.2 (partsR hh x [] R).1).2 ≠ 0 then ([],(bothV whereO x.2 (partsR hh x [] R).1).2) else
   alR hh R (out ++ buildP x.1 (bothV whereO x.2 (partsR hh x [] R).1).1) (l.drop (k+1)):=by
 obtain⟨hk,hx⟩:=List.getElem?_eq_some_iff.1 h;rw[List.drop_eq_getElem_cons hk,hx,alR]
def AloneIs (hh:List Vl->Bool × Int) (ef:Int) (l r:List EdP) (o:List EdP × Int):Prop :=
 ((mayE l && mayE r)=false/\o=([],2))\/((mayE l && mayE r)=true/\(tableE l && tableE r)=false/\o=([],20))\/((mayE l && mayE r)=true/\(tableE l && tableE r)=true/\ef ≠ 0/\o=([],ef)) \/
 (((mayE l && mayE r)=true/\(tableE l && tableE r)=true/\ef=0)/\(((alR hh (runsP r) [] (runsP l)).2 ≠ 0/\o=([],(alR hh (runsP r) [] (runsP l)).2))\/((alR hh (runsP r) [] (runsP l)).2=0/\NormIs (alR hh (runsP r) [] (runsP l)).1 o)))
def alo.T18:Bool × List (List Nat × List Nat):=(true,[([],[]),([],[]),([],[]),([1,2],[1,2]),([0,3,3],[0,3]),([4,4,0,1,2,3,4],[4])])
def alo.B18:List Nat:=[0,0,0,6,15,31]
theorem alo.tab18:rtab .any (opsOf Tryz.f44 18)=alo.T18:=by kernel_rfl
theorem alo.bits18:waitsOk alo.T18.2 alo.B18=true:=by kernel_rfl
theorem Alone_calls (hh:List Vl->Bool × Int) (ef:Int) (A0 A1 A2:Option Addr) (c0 c1 c2:Nat) (l r:List EdP) (x:List Op8) (w:World) (hr0:Kd.C kE w A0 l.length l) (hrow:∀ e ∈ l,e.f0.length<=4398046511104)
  (hr1:Kd.C kE w A1 r.length r) (hrow1:∀ e ∈ r,e.f0.length<=4398046511104)
  (hr2:Kd.C kO w A2 x.length x) (hc2:x.length<=c2) (hhk:∀ a b,a ∈ runsP l->b ∈ runsP r->(joinV a.1 b.1).2=0 -> ∃ k,eval_Holds.f k x (joinV a.1 b.1).1=some (hh (joinV a.1 b.1).1)) (hfk:∃ k,expr_Form.f k x=some ef) :
  Calls Tryz.prog 44 #[.slice A0 l.length c0,.slice A1 r.length c1,.slice A2 x.length c2] w fun e w'=>∃ v o,AloneIs hh ef l r o/\e = .returned (.tuple #[v,.int .i64 o.2])/\Kd.R kE tE w' w.heap.size (fun _=>True) v o.1/\Below w.heap.size w w':=by
 have hu22:Tryz.prog.underlying 22=some (.slice 41):=by kernel_rfl
 have GC:=Hd (Groups_calls A0 c0 l.length);have MA:=Hd (fun (w1:World) (h:Below w.heap.size w w1)=>May_calls A0 c0 l w1 (Kd.C_below hr0 h) hrow);have MB:=Hd (fun (w1:World) (h:Below w.heap.size w w1)=>May_calls A1 c1 r w1 (Kd.C_below hr1 h) hrow1);have TA:=Hd (fun (w1:World) (h:Below w.heap.size w w1)=>Table_calls A0 c0 l w1 (Kd.C_below hr0 h) hrow);have TB:=Hd (fun (w1:World) (h:Below w.heap.size w w1)=>Table_calls A1 c1 r w1 (Kd.C_below hr1 h) hrow1);have FC:=Hd (fun (w1:World) (h:Below w.heap.size w w1)=>(show Calls Tryz.prog 47 #[.slice A2 x.length c2] w1 fun e w'=>e = .returned (.int .i64 ef)/\Below w1.heap.size w1 w' from hfk.elim fun k hk=>expr_Form.calls k A2 c2 x ef w1 (Kd.C_below hr2 h) hc2 hk));have HR:=Hd hr0;have HRR:=Hd (fun (w1:World) (h:Below w.heap.size w w1)=>Kd.C_below hr1 h);have HRX:=Hd (fun (w1:World) (h:Below w.heap.size w w1)=>Kd.C_below hr2 h);have HCX:=Hd hc2;have HRW:=Hd hrow;have HRV:=Hd hrow1;have HHK:=Hd hhk;have HPI:=Hd (fun o (h:AloneIs hh ef l r o)=>h);clear hr0 hr1 hr2 hrow hrow1 hhk hfk hc2;refine (callsIn_wide (n:=40)).1 ?_;refine callsIn_of_wp_marks Tryz.func44 rfl trivial ?_ rfl;simp only[Tryz.ntmps44,List.size_toArray,List.length_cons,List.length_nil,Nat.reduceAdd,Nat.reduceSub,Array.replicate_succ,Array.replicate_zero,List.push_toArray,List.append_toArray,List.nil_append,List.cons_append];gi_wp2;obtain⟨W1,hW1⟩:∃ W1,(((w.alloc (.cells #[.slice A1 r.length c1] 22 (0,0))).alloc (.cells #[.slice A2 x.length c2] 24 (0,0))).alloc (.cells #[.slice none 0 0] 22 (0,0))).alloc (.cells #[.int .i64 0] 27 (0,0))=W1:=⟨_,rfl⟩
 have hsW1:W1.heap.size=w.heap.size+4:=by rw[<- hW1];simp
 have hbW1:Below w.heap.size w W1:=by rw[<- hW1];exact below_alloc (below_alloc (below_alloc (below_alloc (Below.refl _ w) _) _) _) _
 have bx2:W1.heap[w.heap.size]? = some (.cells #[.slice A1 r.length c1] 22 (0,0)):=by
  have h1:=blk_new (w) (.cells #[.slice A1 r.length c1] 22 (0,0));rw[<- hW1];exact blk_alloc (blk_alloc (blk_alloc (h1) _) _) _
 have bx3:W1.heap[w.heap.size+1]? = some (.cells #[.slice A2 x.length c2] 24 (0,0)):=by
  have h1:=blk_new (w.alloc (.cells #[.slice A1 r.length c1] 22 (0,0))) (.cells #[.slice A2 x.length c2] 24 (0,0));rw[World.size_alloc] at h1;rw[<- hW1];exact blk_alloc (blk_alloc (h1) _) _
 have bx4:W1.heap[w.heap.size+1+1]? = some (.cells #[.slice none 0 0] 22 (0,0)):=by
  have h1:=blk_new ((w.alloc (.cells #[.slice A1 r.length c1] 22 (0,0))).alloc (.cells #[.slice A2 x.length c2] 24 (0,0))) (.cells #[.slice none 0 0] 22 (0,0));rw[World.size_alloc,World.size_alloc] at h1;rw[<- hW1];exact blk_alloc (h1) _
 have bx5:W1.heap[w.heap.size+1+1+1]? = some (.cells #[.int .i64 0] 27 (0,0)):=by
  have h1:=blk_new (((w.alloc (.cells #[.slice A1 r.length c1] 22 (0,0))).alloc (.cells #[.slice A2 x.length c2] 24 (0,0))).alloc (.cells #[.slice none 0 0] 22 (0,0))) (.cells #[.int .i64 0] 27 (0,0));rw[World.size_alloc,World.size_alloc,World.size_alloc] at h1;rw[<- hW1];exact h1
 rw[hW1];refine⟨trivial,?_⟩;refine (callsIn_wide.2 (MA.out W1 hbW1)).mono ?_;rintro e w2 ⟨rfl,hb2⟩;have HB2:=Hd (hbW1.trans (hb2.mono hbW1.size));have HSW:=Hd (show w.heap.size+4<=w2.heap.size by have:=hb2.size;omega);have HX2:=Hd (Boxed.below (W:=W1) (B:=w.heap.size) (t:=22) (v:=.slice A1 r.length c1) bx2 hb2);have HX3:=Hd (Boxed.below (W:=W1) (B:=w.heap.size+1) (t:=24) (v:=.slice A2 x.length c2) bx3 hb2);have HX4:=Hd (Boxed.below (W:=W1) (B:=w.heap.size+1+1) (t:=22) (v:=.slice none 0 0) bx4 hb2);have HX5:=Hd (Boxed.below (W:=W1) (B:=w.heap.size+1+1+1) (t:=27) (v:=.int .i64 0) bx5 hb2);clear hW1 hsW1 hbW1 bx2 bx3 bx4 bx5 hb2;obtain⟨m,hm⟩:∃ m,mayE l=m:=⟨_,rfl⟩
 rw[hm];cases m with
 | false =>
  have HO:=Hd (HPI.out ([],2) (.inl ⟨by rw[hm];rfl,rfl⟩));have cl4:=HX4.out.cell;have fr4:=HX4.out.frozen;have HX5':=Hd (Boxed.other HX5.out (B':=w.heap.size+1+1) zq4 (.slice none 0 0));have cl5:=HX5'.out.cell;have fr5:=HX5'.out.frozen;have HZ4:=Hd (Boxed.other (HX4.out.set (.slice none 0 0)) (B':=w.heap.size+1+1+1) zq4 (.int .i64 2));have HZ5:=Hd (HX5'.out.set (.int .i64 2));have HZB:=Hd (Below.setCell (Below.setCell HB2.out (p:=⟨w.heap.size+1+1,0,none⟩) zq52 (.slice none 0 0)) (p:=⟨w.heap.size+1+1+1,0,none⟩) (by show _<=w.heap.size+1+1+1;omega) (.int .i64 2));clear hm;gi_wp2
  rename_i hk
  refine⟨trivial,hk _ _ ?_⟩;clear hk;gi_wp2;exact⟨_,results_c2 rfl _ _ _ rfl HZ4.out.cell (oneC_slice hu22) rfl HZ5.out.cell (oneC_int Tryz.underlying27),_,_,HO.out,rfl,Kd.R_nil _ _ _ _ _,HZB.out⟩
 | true =>
 have HM0:=Hd hm;have cl2:=HX2.out.cell;clear hm;gi_wp2;refine⟨trivial,?_⟩;refine (callsIn_wide.2 (MB.out _ HB2.out)).mono ?_;rintro e w3 ⟨rfl,hb3⟩;clear cl2;have HB9:=Hd (HB2.out.trans (hb3.mono HB2.out.size));have HSW9:=Hd (show w.heap.size+4<=w3.heap.size by have:=hb3.size;have:=HSW.out;omega);have HY2:=Hd (Boxed.below HX2.out hb3);have HY3:=Hd (Boxed.below HX3.out hb3);have HY4:=Hd (Boxed.below HX4.out hb3);have HY5:=Hd (Boxed.below HX5.out hb3);clear hb3 HX2 HX3 HX4 HX5 HB2 HSW;have HX2:=HY2;have HX3:=HY3;have HX4:=HY4;have HX5:=HY5;have HB2:=HB9;have HSW:=HSW9;clear HY2 HY3 HY4 HY5 HB9 HSW9;obtain⟨m,hm⟩:∃ m,mayE r=m:=⟨_,rfl⟩
 rw[hm];cases m with
 | false =>
  have HO:=Hd (HPI.out ([],2) (.inl ⟨by rw[hm,Bool.and_false],rfl⟩));have cl4:=HX4.out.cell;have fr4:=HX4.out.frozen;have HX5':=Hd (Boxed.other HX5.out (B':=w.heap.size+1+1) zq4 (.slice none 0 0));have cl5:=HX5'.out.cell;have fr5:=HX5'.out.frozen;have HZ4:=Hd (Boxed.other (HX4.out.set (.slice none 0 0)) (B':=w.heap.size+1+1+1) zq4 (.int .i64 2));have HZ5:=Hd (HX5'.out.set (.int .i64 2));have HZB:=Hd (Below.setCell (Below.setCell HB2.out (p:=⟨w.heap.size+1+1,0,none⟩) zq52 (.slice none 0 0)) (p:=⟨w.heap.size+1+1+1,0,none⟩) (by show _<=w.heap.size+1+1+1;omega) (.int .i64 2));clear hm;gi_wp2;exact⟨_,results_c2 rfl _ _ _ rfl HZ4.out.cell (oneC_slice hu22) rfl HZ5.out.cell (oneC_int Tryz.underlying27),_,_,HO.out,rfl,Kd.R_nil _ _ _ _ _,HZB.out⟩
 | true =>
 have HM1:=Hd hm;have HMM:=Hd (show (mayE l && mayE r)=true by rw[HM0.out,hm];rfl);clear hm;gi_wp2;refine⟨trivial,?_⟩;refine (callsIn_wide.2 (TA.out _ HB2.out)).mono ?_;rintro e w4 ⟨rfl,hb3⟩;have HB9:=Hd (HB2.out.trans (hb3.mono HB2.out.size));have HSW9:=Hd (show w.heap.size+4<=w4.heap.size by have:=hb3.size;have:=HSW.out;omega);have HY2:=Hd (Boxed.below HX2.out hb3);have HY3:=Hd (Boxed.below HX3.out hb3);have HY4:=Hd (Boxed.below HX4.out hb3);have HY5:=Hd (Boxed.below HX5.out hb3);clear hb3 HX2 HX3 HX4 HX5 HB2 HSW;have HX2:=HY2;have HX3:=HY3;have HX4:=HY4;have HX5:=HY5;have HB2:=HB9;have HSW:=HSW9;clear HY2 HY3 HY4 HY5 HB9 HSW9;obtain⟨m,hm⟩:∃ m,tableE l=m:=⟨_,rfl⟩
 rw[hm];cases m with
 | false =>
  have HO:=Hd (HPI.out ([],20) (.inr (.inl ⟨HMM.out,by rw[hm];rfl,rfl⟩)));have cl4:=HX4.out.cell;have fr4:=HX4.out.frozen;have HX5':=Hd (Boxed.other HX5.out (B':=w.heap.size+1+1) zq4 (.slice none 0 0));have cl5:=HX5'.out.cell;have fr5:=HX5'.out.frozen;have HZ4:=Hd (Boxed.other (HX4.out.set (.slice none 0 0)) (B':=w.heap.size+1+1+1) zq4 (.int .i64 20));have HZ5:=Hd (HX5'.out.set (.int .i64 20));have HZB:=Hd (Below.setCell (Below.setCell HB2.out (p:=⟨w.heap.size+1+1,0,none⟩) zq52 (.slice none 0 0)) (p:=⟨w.heap.size+1+1+1,0,none⟩) (by show _<=w.heap.size+1+1+1;omega) (.int .i64 20));clear hm;gi_wp2
  rename_i hk
  refine⟨trivial,hk _ _ ?_⟩;clear hk;gi_wp2;exact⟨_,results_c2 rfl _ _ _ rfl HZ4.out.cell (oneC_slice hu22) rfl HZ5.out.cell (oneC_int Tryz.underlying27),_,_,HO.out,rfl,Kd.R_nil _ _ _ _ _,HZB.out⟩
 | true =>
 have HT0:=Hd hm;have cl2:=HX2.out.cell;clear hm;gi_wp2;refine⟨trivial,?_⟩;refine (callsIn_wide.2 (TB.out _ HB2.out)).mono ?_;rintro e w5 ⟨rfl,hb3⟩;clear cl2;have HB9:=Hd (HB2.out.trans (hb3.mono HB2.out.size));have HSW9:=Hd (show w.heap.size+4<=w5.heap.size by have:=hb3.size;have:=HSW.out;omega);have HY2:=Hd (Boxed.below HX2.out hb3);have HY3:=Hd (Boxed.below HX3.out hb3);have HY4:=Hd (Boxed.below HX4.out hb3);have HY5:=Hd (Boxed.below HX5.out hb3);clear hb3 HX2 HX3 HX4 HX5 HB2 HSW;have HX2:=HY2;have HX3:=HY3;have HX4:=HY4;have HX5:=HY5;have HB2:=HB9;have HSW:=HSW9;clear HY2 HY3 HY4 HY5 HB9 HSW9;obtain⟨m,hm⟩:∃ m,tableE r=m:=⟨_,rfl⟩
 rw[hm];cases m with
 | false =>
  have HO:=Hd (HPI.out ([],20) (.inr (.inl ⟨HMM.out,by rw[hm,Bool.and_false],rfl⟩)));have cl4:=HX4.out.cell;have fr4:=HX4.out.frozen;have HX5':=Hd (Boxed.other HX5.out (B':=w.heap.size+1+1) zq4 (.slice none 0 0));have cl5:=HX5'.out.cell;have fr5:=HX5'.out.frozen;have HZ4:=Hd (Boxed.other (HX4.out.set (.slice none 0 0)) (B':=w.heap.size+1+1+1) zq4 (.int .i64 20));have HZ5:=Hd (HX5'.out.set (.int .i64 20));have HZB:=Hd (Below.setCell (Below.setCell HB2.out (p:=⟨w.heap.size+1+1,0,none⟩) zq52 (.slice none 0 0)) (p:=⟨w.heap.size+1+1+1,0,none⟩) (by show _<=w.heap.size+1+1+1;omega) (.int .i64 20));clear hm;gi_wp2;exact⟨_,results_c2 rfl _ _ _ rfl HZ4.out.cell (oneC_slice hu22) rfl HZ5.out.cell (oneC_int Tryz.underlying27),_,_,HO.out,rfl,Kd.R_nil _ _ _ _ _,HZB.out⟩
 | true =>
 have HTT:=Hd (show (tableE l && tableE r)=true by rw[HT0.out,hm];rfl);have cl3:=HX3.out.cell;clear hm;gi_wp2;refine⟨trivial,?_⟩;refine (callsIn_wide.2 (FC.out _ HB2.out)).mono ?_;rintro e w6 ⟨rfl,hb3⟩;clear cl3;have HB9:=Hd (HB2.out.trans (hb3.mono HB2.out.size));have HSW9:=Hd (show w.heap.size+4<=w6.heap.size by have:=hb3.size;have:=HSW.out;omega);have HY2:=Hd (Boxed.below HX2.out hb3);have HY3:=Hd (Boxed.below HX3.out hb3);have HY4:=Hd (Boxed.below HX4.out hb3);have HY5:=Hd (Boxed.below HX5.out hb3);clear hb3 HX2 HX3 HX4 HX5 HB2 HSW;have HX2:=HY2;have HX3:=HY3;have HX4:=HY4;have HX5:=HY5;have HB2:=HB9;have HSW:=HSW9;clear HY2 HY3 HY4 HY5 HB9 HSW9
 by_cases hef:ef=0
 case neg =>
  have be:(ef == 0)=false:=beq_eq_false_iff_ne.2 hef;have HO:=Hd (HPI.out ([],ef) (.inr (.inr (.inl ⟨HMM.out,HTT.out,hef,rfl⟩))));have cl4:=HX4.out.cell;have fr4:=HX4.out.frozen;have HX5':=Hd (Boxed.other HX5.out (B':=w.heap.size+1+1) zq4 (.slice none 0 0));have cl5:=HX5'.out.cell;have fr5:=HX5'.out.frozen;have HZ4:=Hd (Boxed.other (HX4.out.set (.slice none 0 0)) (B':=w.heap.size+1+1+1) zq4 (.int .i64 ef));have HZ5:=Hd (HX5'.out.set (.int .i64 ef));have HZB:=Hd (Below.setCell (Below.setCell HB2.out (p:=⟨w.heap.size+1+1,0,none⟩) zq52 (.slice none 0 0)) (p:=⟨w.heap.size+1+1+1,0,none⟩) (by show _<=w.heap.size+1+1+1;omega) (.int .i64 ef));clear hef;gi_wp2;exact⟨_,results_c2 rfl _ _ _ rfl HZ4.out.cell (oneC_slice hu22) rfl HZ5.out.cell (oneC_int Tryz.underlying27),_,_,HO.out,rfl,Kd.R_nil _ _ _ _ _,HZB.out⟩
 case pos =>
 subst hef
 gi_wp2_with (refine⟨trivial,?_⟩;(with_reducible refine (callsIn_wide.2 (GC.out _)).mono ?_);rintro e w5 ⟨rfl,rfl⟩)
 obtain⟨W7,hW7⟩:∃ W7,(w6.alloc (.cells #[] 41 (0,0))).alloc (.cells #[.slice (some ⟨w6.heap.size,0,none⟩) 0 0] 22 (0,0))=W7:=⟨_,rfl⟩
 have hsW7:W7.heap.size=w6.heap.size+2:=by rw[<- hW7];simp
 have hbW7:Below w6.heap.size w6 W7:=by rw[<- hW7];exact below_alloc (below_alloc (Below.refl _ w6) _) _
 have bk0:W7.heap[w6.heap.size]? = some (.cells #[] 41 (0,0)):=by
  have h1:=blk_new (w6) (.cells #[] 41 (0,0));rw[<- hW7];exact blk_alloc (h1) _
 have bx7:W7.heap[w6.heap.size+1]? = some (.cells #[.slice (some ⟨w6.heap.size,0,none⟩) 0 0] 22 (0,0)):=by
  have h1:=blk_new (w6.alloc (.cells #[] 41 (0,0))) (.cells #[.slice (some ⟨w6.heap.size,0,none⟩) 0 0] 22 (0,0));rw[World.size_alloc] at h1;rw[<- hW7];exact h1
 have hit:=groups_iter 39 zq4 A0 c0 l w W7 HR.out (HB2.out.trans (hbW7.mono HB2.out.size)) HM0.out HRW.out;obtain⟨its,hits⟩:∃ x,runsP l=x:=⟨_,rfl⟩
 have HIL:=Hd (show its.length<=4096 by rw[<- hits];exact Nat.le_trans (runs_len l) (mayE_len HM0.out));have HHQ:=Hd (fun a b (ha:a ∈ its) (hb:b ∈ runsP r)=>HHK.out a b (by rw[hits];exact ha) hb);rw[hits] at hit;have HBI:=Hd (fun o (h:(((alR hh (runsP r) [] its).2 ≠ 0/\o=([],(alR hh (runsP r) [] its).2))\/((alR hh (runsP r) [] its).2=0/\NormIs (alR hh (runsP r) [] its).1 o)))=>HPI.out o (.inr (.inr (.inr ⟨⟨HMM.out,HTT.out,rfl⟩,by rw[hits];exact h⟩))));have e7:w6.heap.size+1+1=W7.heap.size:=by omega
 rw[hW7,e7];obtain⟨W8,hW8⟩:∃ W8,W7.alloc (.cells #[.slice A0 l.length c0] 22 (0,0))=W8:=⟨_,rfl⟩
 have HS7:=Hd hsW7;have HS8:=Hd (show W8.heap.size=w6.heap.size+3 by rw[<- hW8,World.size_alloc,hsW7]);have hb8:Below w6.heap.size w6 W8:=by rw[<- hW8];exact below_alloc hbW7 _
 have HB8:=Hd (HB2.out.trans (hb8.mono HB2.out.size));have HSW6:=Hd (show w.heap.size+4<=w6.heap.size from HSW.out);have HZ2:=Hd (Boxed.below HX2.out hb8);have HZ3:=Hd (Boxed.below HX3.out hb8);have HZ4:=Hd (Boxed.below HX4.out hb8);have HZ5:=Hd (Boxed.below HX5.out hb8);have HZ7:=Hd (show Boxed W8 (w6.heap.size+1) 22 (.slice (some ⟨w6.heap.size,0,none⟩) 0 0) by rw[<- hW8];exact blk_alloc bx7 _);have HO8:=Hd (show Kd.R kE tE W8 w.heap.size (fun _=>True) (.slice (some ⟨w6.heap.size,0,none⟩) 0 0) [] from ⟨fun _ _=>trivial,[],⟨rfl,.inr ⟨w6.heap.size,0,#[],rfl,by have:=HSW6.out;omega,by rw[<- hW8];exact blk_alloc bk0 _,Nat.le_refl _,Nat.zero_le _,rfl,rfl⟩⟩,Reps.none _ _⟩);rw[hW8] at hit ⊢;have HIT:=Hd hit;clear hW7 hW8 hsW7 hbW7 bk0 bx7 hit e7 hits hb8 HX2 HX3 HX4 HX5 HSW HB2;have hS0:∀ b,(fun b=>OwnS (w6.heap.size+1) (.slice (some ⟨w6.heap.size,0,none⟩) 0 0) b\/(b=w.heap.size+1+1\/b=w.heap.size+1+1+1)) b -> ¬ (b<w.heap.size\/b=W7.heap.size)/\b<W8.heap.size:=by
  intro b hb;have h1:=HS7.out;have h2:=HS8.out;have h3:=HSW6.out
  rcases hb with (rfl | hb) | hb
  ·omega
  ·have:w6.heap.size=b:=by simpa [Value.ownBlock] using hb
   omega
  ·omega
 refine range_outer (F:=Fence.wide) rfl zq4 (gf:=84) (lb:=#[.pointer (some ⟨W7.heap.size,0,none⟩)]) rfl trivial (enters_of Tryz.func84 zq17 rfl) HIT.out (Keeps.refl _ _) (fun x args W h=>by obtain⟨_,_,_,_,rfl,_⟩:=h;rfl)
  (fun k S W=>∃ v out,S=(fun b=>OwnS (w6.heap.size+1) (v) b\/(b=w.heap.size+1+1\/b=w.heap.size+1+1+1))/\(Boxed W (w.heap.size) 22 (.slice A1 r.length c1)/\Boxed W (w.heap.size+1) 24 (.slice A2 x.length c2)/\Boxed W (w.heap.size+1+1) 22 (.slice none 0 0)/\Boxed W (w.heap.size+1+1+1) 27 (.int .i64 0)) /\
   Boxed W (w6.heap.size+1) 22 v/\Kd.R kE tE W w.heap.size (fun _=>True) v out/\Below w.heap.size w W/\(out.length<=k*1024/\alR hh (runsP r) [] its=alR hh (runsP r) out (its.drop k)))
  (fun c S W=>c = .ret /\ ∃ e,Boxed W (w.heap.size+1+1) 22 (.slice none 0 0)/\Boxed W (w.heap.size+1+1+1) 27 (.int .i64 e)/\Below w.heap.size w W/\alR hh (runsP r) [] its=([],e)/\e ≠ 0)
  (fun y args a' W=>∃ Aq cq Aj cj,args=#[.slice Aq y.1.length cq,.slice Aj y.2.length cj]/\a' = { tmps:=#[.slice A0 l.length c0,.slice A1 r.length c1,.slice A2 x.length c2,undef,.pointer (some ⟨w.heap.size,0,none⟩),.pointer (some ⟨w.heap.size+1,0,none⟩),.pointer (some ⟨w.heap.size+1+1,0,none⟩),.pointer (some ⟨w.heap.size+1+1+1,0,none⟩),.int .i64 0,.pointer (some ⟨w6.heap.size+1,0,none⟩),.slice Aq y.1.length cq,.slice Aj y.2.length cj,undef,undef,undef,.bool false,.slice A0 l.length c0,.bool true,.bool false,.bool false,.slice A1 r.length c1,.bool true,.bool false,.bool false,.bool false,.slice A0 l.length c0,.bool true,.bool false,.bool false,.slice A1 r.length c1,.bool true,.bool false,.bool false,.slice A2 x.length c2,.int .i64 0,.int .i64 0,.bool false,undef,.slice (some ⟨w6.heap.size,0,none⟩) 0 0,.slice A0 l.length c0,.func (.func 84) #[] #[.pointer (some ⟨W7.heap.size,0,none⟩)],.slice Aq y.1.length cq,.slice Aj y.2.length cj,undef,undef,undef,undef,undef,undef,undef,undef,undef,undef,undef,undef,undef,undef,undef,undef,undef,undef,undef,undef,undef,undef,undef,undef,undef,undef,undef,undef,undef],defers:=[] })
  (fun k S=>Grow.ex fun v=>Grow.ex fun out=>(Grow.const _ _).and (((Grow.boxed _ _ _ _).and ((Grow.boxed _ _ _ _).and ((Grow.boxed _ _ _ _).and (Grow.boxed _ _ _ _)))).and ((Grow.boxed _ _ _ _).and ((Grow.R _ _ _ _ _ _).and ((Grow.base (by have:=HS8.out;have:=HSW6.out;omega) w (Nat.le_refl _)).and (Grow.const _ _))))))
  (fun c S=>(Grow.const _ _).and (Grow.ex fun e=>(Grow.boxed _ _ _ _).and ((Grow.boxed _ _ _ _).and ((Grow.base (by have:=HS8.out;have:=HSW6.out;omega) w (Nat.le_refl _)).and (Grow.const _ _))))) (fun y args=>Grow.phi _ _ _)
  (fun y args a'=>Grow.const _ _)
  (fun b=>OwnS (w6.heap.size+1) (.slice (some ⟨w6.heap.size,0,none⟩) 0 0) b\/(b=w.heap.size+1+1\/b=w.heap.size+1+1+1)) hS0 ⟨_,[],rfl,⟨HZ2.out,HZ3.out,HZ4.out,HZ5.out⟩,HZ7.out,HO8.out,HB8.out,Nat.zero_le _,by rw[List.drop_zero]⟩ ?assign ?body ?done ?stop
 case assign =>
  rintro l' k S y args W K hx hi ⟨Aq,cq,Aj,cj,rfl,hphi⟩ hK;clear hi hphi;gi_wp2;exact hK _ _ (Below.refl _ W) ⟨Aq,cq,Aj,cj,rfl,rfl⟩
 case body =>
  rintro l' k S y args a' W hl' ⟨r0,hr0⟩ hx hSb hSl hkR ⟨v,out,rfl,⟨bx2,bx3,bx4,bx5⟩,bx7,hRo,hBW,hout,hEE⟩ ⟨Aq,cq,Aj,cj,he1,hRr,hRj⟩ ⟨Aq2,cq2,Aj2,cj2,he2,rfl⟩;rw[he1] at he2;cases he2;have HH:=Hd (alR_drop hh (runsP r) out its k y hx);have hym:=List.mem_of_getElem? hx;have HK:=Hd (show k<4096 by have h1:=(List.getElem?_eq_some_iff.1 hx).1;have:=HIL.out;omega);have HV:=Hd (partners_calls hh y Aq Aj A1 A2 cq cj c1 c2 r x W ⟨(Kd.R_reads' hRr).2.2,(Kd.R_reads' hRr).2.1⟩ ⟨(Kd.R_reads' hRj).2.2,(Kd.R_reads' hRj).2.1⟩ (HRR.out W hBW) HRV.out HM1.out (HRX.out W hBW) HCX.out (fun z hz=>HHQ.out y z hym hz));obtain⟨⟨pv,ep⟩,hpv⟩:∃ z,partsR hh y [] (runsP r)=z:=⟨_,rfl⟩
  rw[hpv] at HV HH;have HWH:=Hd (fun (A:Option Addr) (c:Nat) (W1:World) (h:Below W.heap.size W W1) (hR:Kd.R kJ tJ W1 W.heap.size (fun _=>True) (.slice A pv.length c) pv)=>Where_calls Aj A cj c y.2 pv W1 (Kd.R_reads' (Kd.R_below hRj h)).2.2 (Kd.R_reads' hRj).2.1 (Kd.R_reads' hR).2.2 (Kd.R_reads' hR).2.1);obtain⟨⟨gv,eg⟩,hgv⟩:∃ z,bothV whereO y.2 pv=z:=⟨_,rfl⟩
  have HWH2:=Hd (fun A c W1 h hR=>by have:=HWH.out A c W1 h hR;unfold BothIs at this;rw[hgv] at this;exact this);simp only at HH;rw[hgv] at HH;have HBD:=Hd (fun (A:Option Addr) (c:Nat) (W1:World) (h:Below W.heap.size W W1) (hR:Kd.R kJ tJ W1 0 (fun _=>True) (.slice A gv.length c) gv)=>Build_calls Aq cq y.1 A c gv W1 (Kd.R_below hRr h) hR);have HBX2:=Hd bx2;have HBX3:=Hd bx3;have HBX4:=Hd bx4;have HBX5:=Hd bx5;have HBX7:=Hd bx7;have HRO:=Hd hRo;have HBW:=Hd hBW;have HEE:=Hd hEE;have HOUT:=Hd hout;have HSB:=Hd hSb;have cl2:=bx2.cell;have cl3:=bx3.cell;obtain⟨nq,hnq⟩:∃ n,y.1.length=n:=⟨_,rfl⟩
  obtain⟨nj,hnj⟩:∃ n,y.2.length=n:=⟨_,rfl⟩
  rw[hnq,hnj] at HV ⊢;rw[hnj] at HWH2;rw[hnq] at HBD;clear hRr hRj bx2 bx3 bx4 bx5 bx7 hBW hEE hx he1 hSb hSl hkR hr0 hl' hRo hout hym hpv hgv HWH hnq hnj;gi_wp2;refine⟨trivial,?_⟩;refine (CallsIn.inRound l' (callsIn_wide.2 HV.out)).mono ?_;rintro e w9 ⟨vp,rfl,hRp,hb9⟩;obtain⟨Ap,cp,rfl⟩:=Kd.R_slice hRp;have HBQ:=Hd hb9;have HW9:=Hd (HWH2.out Ap cp w9 hb9 hRp);have HQ2:=Hd (Boxed.below HBX2.out hb9);have HQ3:=Hd (Boxed.below HBX3.out hb9);have HQ4:=Hd (Boxed.below HBX4.out hb9);have HQ5:=Hd (Boxed.below HBX5.out hb9);have HQ7:=Hd (Boxed.below HBX7.out hb9);clear hRp hb9 cl2 cl3 HV HWH2 HBX2 HBX3 HBX4 HBX5 HBX7;simp only
  by_cases hep:ep=0
  case neg =>
   have HH2:=Hd (show alR hh (runsP r) [] its=([],ep) by rw[HEE.out,HH.out,if_pos hep]);have be:(ep == 0)=false:=beq_eq_false_iff_ne.2 hep;have HNE:=Hd hep;clear hep;have q4:=HQ4.out.cell;have f4:=HQ4.out.frozen;have HQ5':=Hd (Boxed.other HQ5.out (B':=w.heap.size+1+1) zq4 (.slice none 0 0));have q5:=HQ5'.out.cell;have f5:=HQ5'.out.frozen;have HE1:=Hd (((Step.of_below (S:=(fun b=>OwnS (w6.heap.size+1) v b\/(b=w.heap.size+1+1\/b=w.heap.size+1+1+1))) HBQ.out).trans (step_set (.inr (.inl rfl)) (.slice none 0 0))).trans (step_set (.inr (.inr rfl)) (.int .i64 ep)));have HE14:=Hd (Boxed.other (HQ4.out.set (.slice none 0 0)) (B':=w.heap.size+1+1+1) zq4 (.int .i64 ep));have HE15:=Hd (HQ5'.out.set (.int .i64 ep));have HE1W:=Hd (Below.setCell (Below.setCell (HBW.out.trans (HBQ.out.mono HBW.out.size)) (p:=⟨w.heap.size+1+1,0,none⟩) zq52 (.slice none 0 0)) (p:=⟨w.heap.size+1+1+1,0,none⟩) (by show _<=w.heap.size+1+1+1;omega) (.int .i64 ep));gi_wp2
   first
    | exact⟨_,HE1.out,fun b hb=>Nat.lt_of_lt_of_le (HSB.out b hb) HE1.out.size,rfl,HE14.out,ep,HE15.out,HE1W.out,HH2.out,HNE.out⟩
    | exact⟨_,HE1.out,fun b hb=>Nat.lt_of_lt_of_le (HSB.out b hb) HE1.out.size,rfl,ep,HE14.out,HE15.out,HE1W.out,HH2.out,HNE.out⟩
  case pos =>
  have HH3:=Hd (show alR hh (runsP r) [] its=if eg ≠ 0 then ([],eg) else alR hh (runsP r) (out ++ buildP y.1 gv) (its.drop (k+1)) by rw[HEE.out,HH.out,if_neg (by simp[hep])]);subst hep;obtain⟨np,hnp⟩:∃ n,pv.length=n:=⟨_,rfl⟩
  rw[hnp] at HW9 ⊢;clear hnp HH HEE;gi_wp2;refine⟨trivial,?_⟩;refine (CallsIn.inRound l' (callsIn_wide.2 HW9.out)).mono ?_;rintro e w10 ⟨vg,rfl,hRg,hb10⟩;obtain⟨Ag,cg,rfl⟩:=Kd.R_slice hRg;have HRG:=Hd (Kd.R_lower hRg (Nat.zero_le _));have HBQ':=Hd (HBQ.out.trans (hb10.mono HBQ.out.size));have HP2:=Hd (Boxed.below HQ2.out hb10);have HP3:=Hd (Boxed.below HQ3.out hb10);have HP4:=Hd (Boxed.below HQ4.out hb10);have HP5:=Hd (Boxed.below HQ5.out hb10);have HP7:=Hd (Boxed.below HQ7.out hb10);clear hRg hb10 HW9 HBQ HQ2 HQ3 HQ4 HQ5 HQ7;have HBQ:=HBQ';have HQ2:=HP2;have HQ3:=HP3;have HQ4:=HP4;have HQ5:=HP5;have HQ7:=HP7;clear HBQ' HP2 HP3 HP4 HP5 HP7;have HRG:=Hd (show Kd.R kJ tJ w10 0 (fun _=>True) (.slice Ag gv.length cg) gv from HRG.out);simp only
  by_cases heg:eg=0
  case neg =>
   have HH2:=Hd (show alR hh (runsP r) [] its=([],eg) by rw[HH3.out,if_pos heg]);have be:(eg == 0)=false:=beq_eq_false_iff_ne.2 heg;have HNE:=Hd heg;clear heg;have q4:=HQ4.out.cell;have f4:=HQ4.out.frozen;have HQ5':=Hd (Boxed.other HQ5.out (B':=w.heap.size+1+1) zq4 (.slice none 0 0));have q5:=HQ5'.out.cell;have f5:=HQ5'.out.frozen;have HE1:=Hd (((Step.of_below (S:=(fun b=>OwnS (w6.heap.size+1) v b\/(b=w.heap.size+1+1\/b=w.heap.size+1+1+1))) HBQ.out).trans (step_set (.inr (.inl rfl)) (.slice none 0 0))).trans (step_set (.inr (.inr rfl)) (.int .i64 eg)));have HE14:=Hd (Boxed.other (HQ4.out.set (.slice none 0 0)) (B':=w.heap.size+1+1+1) zq4 (.int .i64 eg));have HE15:=Hd (HQ5'.out.set (.int .i64 eg));have HE1W:=Hd (Below.setCell (Below.setCell (HBW.out.trans (HBQ.out.mono HBW.out.size)) (p:=⟨w.heap.size+1+1,0,none⟩) zq52 (.slice none 0 0)) (p:=⟨w.heap.size+1+1+1,0,none⟩) (by show _<=w.heap.size+1+1+1;omega) (.int .i64 eg));gi_wp2
   first
    | exact⟨_,HE1.out,fun b hb=>Nat.lt_of_lt_of_le (HSB.out b hb) HE1.out.size,rfl,HE14.out,eg,HE15.out,HE1W.out,HH2.out,HNE.out⟩
    | exact⟨_,HE1.out,fun b hb=>Nat.lt_of_lt_of_le (HSB.out b hb) HE1.out.size,rfl,eg,HE14.out,HE15.out,HE1W.out,HH2.out,HNE.out⟩
  case pos =>
  have HH2:=Hd (show alR hh (runsP r) [] its=alR hh (runsP r) (out ++ buildP y.1 gv) (its.drop (k+1)) by rw[HH3.out,if_neg (by simp[heg])]);subst heg;have HBD2:=Hd (fun (W1:World) (h:Below w10.heap.size w10 W1)=>HBD.out Ag cg W1 (HBQ.out.trans (h.mono HBQ.out.size)) (Kd.R_below HRG.out h));obtain⟨ng,hng⟩:∃ n,gv.length=n:=⟨_,rfl⟩
  rw[hng] at HBD2 ⊢;obtain⟨bp,hbp⟩:∃ z,buildP y.1 gv=z:=⟨_,rfl⟩
  have HBL:=Hd (show bp.length<=1024 by rw[<- hbp];exact buildP_len _ _);rw[hbp] at HBD2 HH2;obtain⟨o2,ho2⟩:∃ o2,out ++ bp=o2:=⟨_,rfl⟩
  have HL2:=Hd (show o2.length<=(k+1)*1024 by have h1:=HOUT.out;have h3:=HBL.out;rw[<- ho2,List.length_append];omega);rw[ho2] at HH2;have HO2:=Hd ho2;clear ho2 hng hbp HH3 HBD HRG;gi_wp2;have HD6:=Hd (below_drew1 HBQ.out);have HDX:=Hd (below_drew1 (Below.refl w10.heap.size w10));have c7:w10.drew.cell? ⟨w6.heap.size+1,0,none⟩=some v:=HQ7.out.cell;have HU2:=Hd (show Boxed w10.drew (w.heap.size) 22 (.slice A1 r.length c1) from HQ2.out);have HU3:=Hd (show Boxed w10.drew (w.heap.size+1) 24 (.slice A2 x.length c2) from HQ3.out);have HU4:=Hd (show Boxed w10.drew (w.heap.size+1+1) 22 (.slice none 0 0) from HQ4.out);have HU5:=Hd (show Boxed w10.drew (w.heap.size+1+1+1) 27 (.int .i64 0) from HQ5.out);have HU7:=Hd (show Boxed w10.drew (w6.heap.size+1) 22 v from HQ7.out);have HRD6:=Hd (Kd.R_below HRO.out HD6.out);have HOWN:=Hd (fun b (h:v.ownBlock=some b)=>(own_ltR HRD6.out h).2);clear HQ2 HQ3 HQ4 HQ5 HQ7 HBQ;refine startIn_ (m:=6) (S:=fun w'=>w'.cell? ⟨w6.heap.size+1,0,none⟩=some v) (ds:=[4,5]) (fun ⟨_,_,h⟩=>h) zq17 #[false,false,false,false,false,false] zq17 rfl rfl (c7) (fun hHeld=>?_);refine with_tabW alo.tab18 alo.bits18 (fun HT_ HW_=>?_);generalize w10.drew=wD at c7 HD6 HDX HU2 HU3 HU4 HU5 HU7 HRD6 HOWN hHeld ⊢;refine pZ 1 64 ?_;refine pZ 2 65 ?_;refine take_ (i:=0) (N:=some 63) (v:=?_) (a':=?_) #[true,true,true,false,false,false] rfl rfl (take_ofW HT_.out HW_.out zq17) (fun _ _ _ h=>h) (Or.inl ⟨by rfl,?_⟩) hHeld ?_ ?_;rotate_left
  ·intro w' s0
   go_simp
   with_reducible rfl
  rotate_left
  ·simp only[Act.put,List.setIfInBounds_toArray,List.set_cons_zero,List.set_cons_succ,i64_w,i32_w]
   rfl
  refine oZ 3 66 (fun K hK=>?_);refine goes_ Tryz.func49 zq17 rfl #[.slice Aq nq cq,.slice Ag ng cg] (by rfl) rfl rfl zq67 ?_
  with_reducible refine (HBD2.out _ HDX.out).mono ?_
  rintro e w7 ⟨vb,rfl,hRb,hb7⟩;refine⟨_,rfl,?_⟩;obtain⟨Ab,cb,rfl,hcb,hRd⟩:=OwnRow.reads hRb.2;have HRD:=Hd hRd;have HB7:=Hd hb7;clear hRb hcb hRd hb7;refine hK.out _ _ (pw_cell_below HB7.out c7) (fun hHeld=>?_);clear hK K;refine nZ 66 ?_;refine last_ (i:=4) (N:=some 67) #[true,true,true,true,true,false] rfl rfl (one_of HT_.out zq17) zq34 (fun K hK=>?_);refine Kd.R_append_rows_step kE (w0:=w7) w.heap.size (by rfl) (.tmp 63) (.tmp 66) 22 41 (.agg #[.slice none 0 0,(.int .i64 0),(.int .i64 0)]) 40 rfl hu22 info41 rfl zq34 zq4 v out bp _ _ _ (fun _=>True) (fun k=>wD.heap.size<=k) rfl rfl ?aO HRD.out ?aM ?aK (fun _ _=>trivial) (Below.refl _ _) ?aS ?aL ?_
  case aO=>exact Kd.R_below HRD6.out HB7.out
  case aM=>exact fun z cs h=>kE.M_lower (Nat.le_trans HBW.out.size HD6.out.size) (kE.M_mono (fun q hq=>hq.2.1) (kE.M_bound h))
  case aK=>exact fun q hq=>⟨trivial,fun e'=>Nat.lt_irrefl _ (Nat.lt_of_lt_of_le (HOWN.out q e'.symm) hq)⟩
  case aS=>exact Nat.le_trans HBW.out.size (Nat.le_trans HD6.out.size HB7.out.size)
  case aL=>have h1:=HOUT.out;have h2:=HK.out;have h3:=HBL.out;omega
  intro v1 w8 ho hb hg hat;rw[HO2.out] at ho;obtain⟨Az,cz,rfl⟩:=Kd.R_slice ho;have HR7:=Hd (Kd.R_below HRD6.out HB7.out);have HT7:=Hd (Boxed.below HU7.out HB7.out);obtain⟨z1,z2,z3,z4,z5⟩:=box_Rt HT7.out HR7.out zq34 ho hg hat;have d7:=z1.cell;have g7:=z1.frozen;have HK2:=Hd ((Boxed.below HU2.out HB7.out).kept hg (Kd.R_ne HR7.out (Boxed.below HU2.out HB7.out) zq34));have HK3:=Hd ((Boxed.below HU3.out HB7.out).kept hg (Kd.R_ne HR7.out (Boxed.below HU3.out HB7.out) zq34));have HK4:=Hd ((Boxed.below HU4.out HB7.out).kept hg (Kd.R_ne HR7.out (Boxed.below HU4.out HB7.out) zq34));have HK5:=Hd ((Boxed.below HU5.out HB7.out).kept hg (Kd.R_ne HR7.out (Boxed.below HU5.out HB7.out) zq34));have HG:=Hd hg;have HZ2':=Hd z2;have HZ3':=Hd z3;have HZ4':=Hd z4;have HZ5':=Hd z5;clear z1 z2 z3 z4 z5 ho hb hg hat;refine hK.out _ _ ?_;clear hK K;refine nZ 67 ?_;refine last_ (i:=5) (N:=none) #[true,true,true,true,true,true] rfl rfl (one_of HT_.out zq17) zq34 (fun K hK=>?_);refine skip_ (w1:=?_) (by rfl) rfl ?_ ?_;rotate_left
  ·go_simp
   rfl
  refine hK.out _ _ ?_;clear hK K;refine done_ (done_of HT_.out zq17) ?_;have HY:=Hd (((Step.of_below (S:=(fun b=>OwnS (w6.heap.size+1) v b\/(b=w.heap.size+1+1\/b=w.heap.size+1+1+1))) (HD6.out.trans (HB7.out.mono HD6.out.size))).trans (HZ4'.out.wide (fun b=>b=w.heap.size+1+1\/b=w.heap.size+1+1+1))));have HB7w:=Hd ((HBW.out.trans (HD6.out.mono HBW.out.size)).trans (HB7.out.mono (Nat.le_trans HBW.out.size HD6.out.size)));have hn2:w.heap.size ≠ w6.heap.size+1:=by have:=HSW6.out;omega
  have hn3:w.heap.size+1 ≠ w6.heap.size+1:=by have:=HSW6.out;omega
  have hn4:w.heap.size+1+1 ≠ w6.heap.size+1:=by have:=HSW6.out;omega
  have hn5:w.heap.size+1+1+1 ≠ w6.heap.size+1:=by have:=HSW6.out;omega
  have HW4:=Hd (Boxed.other HK4.out hn4 (.slice Az o2.length cz));have HW5:=Hd (Boxed.other HK5.out hn5 (.slice Az o2.length cz));have HBF:=Hd (Below.setCell (HB7w.out.trans (grown_base HR7.out HG.out HB7w.out.size)) (p:=⟨w6.heap.size+1,0,none⟩) (by show _<=w6.heap.size+1;have:=HSW6.out;omega) (.slice Az o2.length cz));have HYB:=Hd (show ∀ b,(fun b=>OwnS (w6.heap.size+1) (.slice Az o2.length cz) b\/(b=w.heap.size+1+1\/b=w.heap.size+1+1+1)) b->b<(w8.setCell ⟨w6.heap.size+1,0,none⟩ (.slice Az o2.length cz)).heap.size from fun b hb=>hb.elim (HZ5'.out b) (fun hb=>hb.elim (fun h=>h.symm ▸ HW4.out.lt) (fun h=>h.symm ▸ HW5.out.lt)));gi_wp2;exact⟨_,HY.out,HYB.out,_,rfl,⟨Boxed.other HK2.out hn2 _,Boxed.other HK3.out hn3 _,HW4.out,HW5.out⟩,HZ2'.out,o2,HZ3'.out,HBF.out,HL2.out,HH2.out⟩
 case done =>
  rintro D S W hD hSD hst hsb ⟨v,out,rfl,⟨bx2,bx3,bx4,bx5⟩,bx6,hRo,hBW,hout,hEE⟩ hK;obtain⟨Av,cv,rfl⟩:=Kd.R_slice hRo;rw[List.drop_length] at hEE;have hEE2:alR hh (runsP r) [] its=(out,0):=hEE;have HBI2:=Hd (fun r (h:NormIs out r)=>HBI.out r (.inr ⟨by rw[hEE2],by rw[hEE2];exact h⟩));have hD4:D ≠ w.heap.size+1+1:=by have:=HS8.out;have:=HSW6.out;omega
  have hD5:D ≠ w.heap.size+1+1+1:=by have:=HS8.out;have:=HSW6.out;omega
  have HD:=Hd (show w.heap.size<=D by have:=HS8.out;have:=HSW6.out;omega);have cl6:=bx6.cell;have HX4D:=Hd bx4;have HX5D:=Hd bx5;have HBWD:=Hd hBW;have HKD:=Hd hK;have NC:=Hd (NormE_calls Av cv out W (Kd.R_reads' hRo).2.2 (by have:=HIL.out;omega));clear hst hsb hSD bx2 bx3 bx4 bx5 bx6 hBW hEE hEE2 hRo hK;gi_wp2;refine⟨trivial,?_⟩;refine (callsIn_wide.2 NC.out).mono ?_;rintro e w7 ⟨vn,rn,hnorm,rfl,hRn,hb7⟩;obtain⟨An,cn,rfl⟩:=Kd.R_slice hRn;have HRES:=Hd (HBI2.out rn hnorm);have bx4:=Boxed.below HX4D.out hb7;have bx5:=Boxed.below HX5D.out hb7;have hK7:w7.heap[D]? = some (.deferred (some [])):=(hb7.block D (Array.getElem?_eq_some_iff.1 HKD.out).1).trans HKD.out;have hBW7:=HBWD.out.trans (hb7.mono HBWD.out.size);have hRo:=Kd.R_lower hRn HBWD.out.size;have cl4:=bx4.cell;have fr4:=bx4.frozen;have HB4':=Hd (Boxed.other (bx4.set (.slice An rn.1.length cn)) (B':=w.heap.size+1+1+1) zq4 (.int .i64 rn.2));have hb5:=Boxed.other bx5 (B':=w.heap.size+1+1) zq4 (.slice An rn.1.length cn);have cl5:=hb5.cell;have fr5:=hb5.frozen;have HB5':=Hd (hb5.set (.int .i64 rn.2));have HK2:=Hd (show ((w7.setCell ⟨w.heap.size+1+1,0,none⟩ (.slice An rn.1.length cn)).setCell ⟨w.heap.size+1+1+1,0,none⟩ (.int .i64 rn.2)).heap[D]? = some (.deferred (some [])) from ((Below.heap_setCell _ ⟨w.heap.size+1+1+1,0,none⟩ (.int .i64 rn.2) D hD5).trans (Below.heap_setCell w7 ⟨w.heap.size+1+1,0,none⟩ (.slice An rn.1.length cn) D hD4)).trans hK7);have HBY':=Hd (Below.setCell (Below.setCell hBW7 (p:=⟨w.heap.size+1+1,0,none⟩) zq52 (.slice An rn.1.length cn)) (p:=⟨w.heap.size+1+1+1,0,none⟩) (by show _<=w.heap.size+1+1+1;omega) (.int .i64 rn.2));have HRZ:=Hd ((Grow.R D tE w.heap.size (fun _=>True) (.slice An rn.1.length cn) rn.1).put (.deferred none) (Kd.R_set (Kd.R_set hRo bx4 zq34 0 (.slice An rn.1.length cn)) hb5 zq34 0 (.int .i64 rn.2)) (Nat.le_refl D) HK2.out rfl);clear bx4 bx5 hb5 hRo hRn hb7 hK7 hBW7 hnorm;gi_wp2;refine⟨by simp,.inl ⟨_,_,rfl,run_takeDeferred HK2.out,?_⟩⟩;exact⟨_,results_c2 rfl _ _ _ rfl (Boxed.cell (put_boxed HB4'.out hD4.symm _)) (oneC_slice hu22) rfl (Boxed.cell (put_boxed HB5'.out hD5.symm _)) (oneC_int Tryz.underlying27),_,rn,HRES.out,rfl,HRZ.out,below_put (Nat.le_refl _) _ HBY'.out HD.out⟩
 case stop =>
  rintro D c S W hD hSD hst hsb ⟨rfl,e,bx4,bx5,hBW,hEE,hne⟩ hK;have HRES:=Hd (HBI.out ([],e) (.inl ⟨by rw[hEE];exact hne,by rw[hEE]⟩));have hD4:D ≠ w.heap.size+1+1:=by have:=HS8.out;have:=HSW6.out;omega
  have hD5:D ≠ w.heap.size+1+1+1:=by have:=HS8.out;have:=HSW6.out;omega
  have HD:=Hd (show w.heap.size<=D by have:=HS8.out;have:=HSW6.out;omega);have HB4':=Hd bx4;have HB5':=Hd bx5;have HBY':=Hd hBW;have HK2:=Hd hK;clear hK bx4 bx5 hBW hEE hst hsb hSD hne;gi_wp2;refine⟨by simp,.inl ⟨_,_,rfl,run_takeDeferred HK2.out,?_⟩⟩;exact⟨_,results_c2 rfl _ _ _ rfl (Boxed.cell (put_boxed HB4'.out hD4.symm _)) (oneC_slice hu22) rfl (Boxed.cell (put_boxed HB5'.out hD5.symm _)) (oneC_int Tryz.underlying27),_,[],e,HRES.out,rfl,Kd.R_nil _ _ _ _ _,below_put (Nat.le_refl _) _ HBY'.out HD.out⟩
end Go.Proofs.YtmkgecapkeojaaaGreat.Eg
end
section
namespace Go.Proofs.YtmkgecapkeojaaaGreat.Eg
open PDa
open RowKit YtmkgecapkeojaaaGreatW.PrintWords YtmkgecapkeojaaaGreatW.PrintLast YtmkgecapkeojaaaGreatW.PrintMore
open Stp Rw SortM
theorem hsame_calls (A0 A1:Option Addr) (c0 c1:Nat) (l:List EdP) (w:World) (hr0:Kd.C kE w A0 l.length l) (hc0:l.length<=c0) (hr1:Kd.C kE w A1 l.length l) (hc1:l.length<=c1) (hl:l.length<=1000000000) (hrow:∀ e ∈ l,e.f0.length<=4398046511104) :
  Calls Tryz.prog 20 #[.slice A0 l.length c0,.slice A1 l.length c1] w fun e w'=>e = .returned (.bool true)/\Below w.heap.size w w':=by
 have HA:=Hd hr0;have HD:=Hd hr1;have HRW:=Hd hrow;have HL:=Hd hl;clear hr0 hr1 hrow hc0 hc1 hl;go_enter Tryz.func20,Tryz.ntmps20;go_wp2
 go_loopw [5] (fun v5 wr=>∃ (i:Nat),i<=l.length/\v5 = .int .i64 (i:Int)/\Aside0 (Below w.heap.size w wr)) (fun v5 wr=>l.length - (intOf v5).toNat)
 case atStart=>exact⟨0,Nat.zero_le _,rfl,⟨Below.refl _ _⟩⟩
 case round =>
  obtain⟨i,hi,rfl,HB⟩:=hrel;have hll:=HL.out
  by_cases c:i<l.length
  ·obtain⟨X,hX⟩:∃ X,l[i]=X:=⟨_,rfl⟩
   obtain⟨ad,Ax,cx,e1,x0,x1,x2,x3,x4⟩:=at_T41 (Kd.C_below HA.out HB.out) (i:Int) zq4 zq4;obtain⟨bd,Ay,cy,e2,y0,y1,y2,y3,y4⟩:=at_T41 (Kd.C_below HD.out HB.out) (i:Int) zq4 zq4;rw[Int.toNat_natCast,rdE l i c,hX] at x0 x1 x2 y0 y1 y2;rw[rdE l i c,hX] at x3 x4 y3 y4;cases e1;cases e2;have hs:=same06 X.f0 X.f0 (HRW.out X (by rw[<- hX];exact List.getElem_mem c));rw[eqR_refl] at hs;obtain⟨ks,hks⟩:=hs.get;have CM:=Hd (fun (p:BelowOf wr)=>(show Calls Tryz.prog 53 #[.slice Ax X.f0.length cx,.slice Ay X.f0.length cy] p.W (fun e w'=>e = .returned (.bool true)/\Below p.W.heap.size p.W w') from (r06_Same.calls ks Ax cx X.f0 Ay cy X.f0 true p.W (Kd.C_below x4 p.h) x3 (Kd.C_below y4 p.h) y3 hks).mono fun e w' z=>⟨z.1,z.2.below⟩));have x0':=fun p=>BelowOf.cell x0 p
   have x1':=fun p=>BelowOf.cell x1 p
   have x2':=fun p=>BelowOf.cell x2 p
   have y0':=fun p=>BelowOf.cell y0 p
   have y1':=fun p=>BelowOf.cell y1 p
   have y2':=fun p=>BelowOf.cell y2 p
   have pI:(0<=(i:Int))=True:=eq_true zq4;have qI:((i:Int)<(l.length:Int))=True:=eq_true zq4;clear x3 x4 y3 y4 hs hks hX;go_wp2;refine wp_region_quiet_below zq17 zq17 ?_
   repeat (go_big_quiet_step (exact below_calls (CM.out _)))
   refine wpQuiet_nil ?_;intro wq hw1;have HWQ:=Hd (show Below wr.heap.size wr wq by obtain⟨p,rfl⟩:=hw1;exact p.h);have HBN:=Hd (HB.out.trans (HWQ.out.mono HB.out.size));clear hw1 x0' x1' x2' y0' y1' y2' x0 x1 x2 y0 y1 y2;go_wp2;go_roundw
   case rel=>exact⟨i+1,by omega,by go_num,⟨HBN.out⟩⟩
   case measure=>simp[intOf];omega
  ·obtain rfl:i=l.length:=by omega
   go_wp2;go_ret;exact⟨rfl,HB.out⟩
end Go.Proofs.YtmkgecapkeojaaaGreat.Eg
end
section
namespace Go.Proofs.YtmkgecapkeojaaaGreat.Eg
open PDa
open RowKit YtmkgecapkeojaaaGreatW.PrintWords YtmkgecapkeojaaaGreatW.PrintLast YtmkgecapkeojaaaGreatW.PrintMore
open Stp Rw
structure Hold (p:Prop):Prop where
 out:p
theorem hold_intro {p:Prop} (h:Hold p):p:=h.out
def v1:Vl:=⟨1,1,⟨#[]⟩⟩
def v2:Vl:=⟨1,2,⟨#[]⟩⟩
def e1:EdP:=⟨[v1],2,1⟩
def e2:EdP:=⟨[v1],5,-1⟩
def e3:EdP:=⟨[v2],5,1⟩
theorem C_lit {α:Type} {d:Kd α} {W:World} {B:Nat} {t:TypeId} {cs:Array Value} {ps qs:List α} {inner:List Value} {n:Nat} (hq:ps=qs) (hb:W.heap[B]? = some (.cells cs t (0,0))) (hi:cs.toList=inner) (hn:qs.length=n) (hn2:n<=100) (hr:Reps (d.K W) d.sz ps inner):Kd.C d W (some ⟨B,0,none⟩) n qs:=by
 subst hq;subst hn;have ho:OwnRow (d.K W) t d.sz W 0 (.slice (some ⟨B,0,none⟩) ps.length ps.length) ps:=⟨inner,⟨hr.1,.inr ⟨B,ps.length,cs,rfl,Nat.zero_le _,hb,Nat.le_refl _,by unfold maxLen;omega,by rw[<- Array.length_toList,hi,hr.1],by rw[hi,List.take_of_length_le (by rw[hr.1];exact Nat.le_refl _)]⟩⟩,hr⟩
 obtain⟨A,c,he,_,h⟩:=OwnRow.reads ho;cases he;exact h
end Go.Proofs.YtmkgecapkeojaaaGreat.Eg
end
section
namespace Go.Proofs.YtmkgecapkeojaaaGreat.Eg
open PDa
open RowKit YtmkgecapkeojaaaGreatW.PrintWords YtmkgecapkeojaaaGreatW.PrintLast YtmkgecapkeojaaaGreatW.PrintMore
open Run Rw
def rput.T4:Bool × List (List Nat × List Nat):=(true,[([],[]),([],[]),([],[]),([1,2],[1,2]),([],[]),([],[]),([4,5],[4,5]),([6],[6]),([7],[7]),([],[]),([],[]),([9,10],[9,10]),([11],[11]),([12],[12]),([3,8,13],[3,8,13]),([14],[14]),([0,15,3],[0,15]),([16,16,0,1,2,3,4,5,6,7,8,9,10,11,12,13,14,15,16],[0,16])])
def rput.B4:List Nat:=[0,0,0,6,0,0,48,112,240,0,0,1536,3584,7680,16382,32766,65535,131071]
theorem rput.tab4:rtab .any (opsOf Tryz.f68 4)=rput.T4:=by kernel_rfl
theorem rput.bits4:waitsOk rput.T4.2 rput.B4=true:=by kernel_rfl
theorem refput_calls (base:Nat) (ok:Nat->Prop) (v:Value) (l:List S41) (A1:Option Addr) (c1:Nat) (r:List S65) (A2:Option Addr) (c2:Nat) (f:List S85) (w:World)
  (hR:Kd.R kE tE w base ok v l) (hbase:base<=w.heap.size) (hfresh:∀ k,w.heap.size<=k->ok k) (okr:Nat->Prop) (hr:∀ w2:World,(∀ k,okr k->w2.heap[k]? = w.heap[k]?)->Kd.C kV w2 A1 r.length r) (hrd:∀ k,okr k->k<w.heap.size/\some k ≠ v.ownBlock) (hf:Kd.R kJp tJ w 0 (fun _=>True) (.slice A2 f.length c2) f)
  (hrl:r.length<=4398046511104) (hl:l.length+f.length<=1099511627776) :
  Calls Tryz.prog 68 #[v,.slice A1 r.length c1,.slice A2 f.length c2] w fun e w'=>∃ v1,e = .returned v1/\Kd.R kE tE w' base ok v1 (putP l r f)/\w.grownBy w' v.ownBlock/\(v1.ownBlock=v.ownBlock \/ ∃ b,v1.ownBlock=some b/\w.heap.size<=b):=by
 have hu:=Tryz.underlying41;have hu39:Tryz.prog.underlying 39=some (.slice 65):=by kernel_rfl
 have hu22:Tryz.prog.underlying 22=some (.slice 41):=by kernel_rfl
 have HR:=Hd hR;have HRr:=Hd hr;have HRD:=Hd hrd;have HRf:=Hd hf;have HFR:=Hd hfresh;have HB0:=Hd hbase;have HL:=Hd hl;have HRL:=Hd hrl;clear hR hr hrd hf hfresh hbase hl hrl;go_enter Tryz.func68,Tryz.ntmps68;go_wp2
 go_loopw [0,7] (fun v0 v11 wr=>∃ (i:Nat),i<=f.length/\v11 = .int .i64 (i:Int)/\Aside0 (Kd.R kE tE wr base ok v0 (putP l r (f.take i)))/\Aside0 (w.grownBy wr v.ownBlock)/\Aside0 (v0.ownBlock=v.ownBlock \/ ∃ b,v0.ownBlock=some b/\w.heap.size<=b)/\Aside0 (Kd.R kJp tJ wr 0 (fun _=>True) (.slice A2 f.length c2) f)) (fun v0 v11 wr=>f.length - (intOf v11).toNat)
 case atStart=>exact⟨0,Nat.zero_le _,rfl,⟨by simpa [putP] using HR.out⟩,⟨World.grownBy.refl w _⟩,⟨.inl rfl⟩,⟨HRf.out⟩⟩
 case round =>
  obtain⟨i,hi,rfl,HO,HG,HAT,HRf1⟩:=hrel
  by_cases c:i<f.length
  ·obtain⟨Y,hYj⟩:∃ Y,f[i]=Y:=⟨_,rfl⟩
   obtain⟨ad,e1,x0,x1⟩:=at_T85 (Kd.R_reads' HRf1.out).2.2 (i:Int) zq4 zq4;have hrd:rd_T85 f (i:Int)=Y:=by
    unfold rd_T85;rw[Int.toNat_natCast,List.getD_eq_getElem?_getD,List.getElem?_eq_getElem c];exact hYj
   rw[Int.toNat_natCast,hrd] at x0 x1;clear hrd;cases e1;have HYj:=Hd hYj;clear hYj;have hll:f.length<=1099511627776:=by have:=HL.out;omega
   have pI:(0<=(i:Int))=True:=eq_true zq4;have qI:((i:Int)<(f.length:Int))=True:=eq_true zq4;go_wp2;obtain⟨wA,hwA⟩:∃ x,x=wr:=⟨_,rfl⟩
   have b0:wA.drew.cell? (ad.add (i*2))=some (.int .i64 Y.f0):=by rw[hwA];exact x0
   have b1:wA.drew.cell? ⟨(ad.add (i*2)).block,(ad.add (i*2)).off+1,none⟩=some (.int .i64 Y.f1):=by rw[hwA];exact x1
   have HBA:=Hd (show Below wr.heap.size wr wA.drew by rw[hwA];exact below_drew1 (Below.refl _ wr));have HSA:=Hd (show wA.drew.heap.size=wr.heap.size by rw[hwA];rfl);rw[<- hwA];clear hwA x0 x1;have HOA:=Hd (Kd.R_below HO.out HBA.out);have HGA:=Hd (grown_trans HG.out HAT.out (grown_below HBA.out));have HRrA:=Hd (HRr.out wA.drew (fun k hk=>HGA.out.block k (HRD.out k hk).1 (HRD.out k hk).2));have HRfA:=Hd (Kd.R_below HRf1.out HBA.out);have HOW:=Hd (fun k (h:u0.ownBlock=some k)=>own_ltR HO.out h);clear HO HG HRf1;refine start_ (n:=18) (S:=fun w'=>w'.cell? (ad.add (i*2))=some (.int .i64 Y.f0)/\w'.cell? ⟨(ad.add (i*2)).block,(ad.add (i*2)).off+1,none⟩=some (.int .i64 Y.f1)) (ds:=[15,16]) #[false,false,false,false,false,false,false,false,false,false,false,false,false,false,false,false,false,false] zq17 rfl rfl ⟨b0,b1⟩ (fun hHeld=>?_);refine with_tabW rput.tab4 rput.bits4 (fun HT_ HW_=>?_);refine pZ 0 14 ?_;refine pZ 2 16 ?_;refine pZ 4 18 ?_;refine pZ 5 19 ?_;refine pZ 6 20 ?_;refine pZ 7 21 ?_;refine pZ 9 23 ?_;refine pZ 10 24 ?_;refine pZ 11 25 ?_;refine pZ 12 26 ?_;refine tZ2 8 22 ?_;refine tZ2 13 27 ?_;refine oZ 1 15 (fun K hK=>?_);refine Kd.R_lit_step kV _ tV ?hg (N:=15) ?hd (xs:=([]:List Vl)) (inner:=[]) (ok:=fun _=>True) (okp:=fun _=>True) ?hr ?hp (fun _ hk=>hk) trivial (Below.refl _ _) (Nat.le_refl _) zq30 ?_
   case hd=>rfl
   case hg=>rfl
   case hr=>first | (go_simp;done) | (go_simp;rfl)
   case hp=>exact Reps.none _ _
   intro vl w3 hRl hbl hgl hnl;obtain⟨Al,cl,rfl⟩:=Kd.R_slice hRl;have HRL3:=Hd hRl;have HBL3:=Hd hbl;clear hRl hbl hgl hnl;refine hK.out _ _ ⟨pw_cell_below HBL3.out b0,pw_cell_below HBL3.out b1⟩ (fun hHeld=>?_);clear hK K;refine nZ 15 ?_;refine oZ 3 17 (fun K hK=>?_);refine Kd.R_append_rows_step kV (w0:=wA.drew) wA.drew.heap.size (by rfl) (.tmp 15) (.tmp 16) 39 65 (.agg #[(.int .i64 0),(.int .i64 0),(.string ⟨#[]⟩)]) 32 rfl hu39 info65 rfl zq34 zq4 (.slice Al ([]:List Vl).length cl) [] r _ _ _ (fun _=>True) (fun _=>False) rfl rfl HRL3.out (Kd.C_below HRrA.out HBL3.out) (fun _ _ h=>h) (fun _ h=>h.elim) (fun _ _=>trivial) HBL3.out HBL3.out.size ?aL ?_
   case aL=>have:=HRL.out;simp only[List.length_nil,Nat.zero_add];omega
   intro vc w4 hRc hbc hgc hatc;obtain⟨Ac,cc,rfl⟩:=Kd.R_slice hRc;have HRC:=Hd (show Kd.R kV tV w4 wA.drew.heap.size (fun _=>True) (.slice Ac r.length cc) r from hRc);have HBC:=Hd hbc;clear hRc hbc hgc hatc;refine hK.out _ _ ⟨pw_cell_below HBC.out b0,pw_cell_below HBC.out b1⟩ (fun hHeld=>?_);clear hK K;refine nZ 17 ?_;refine pZ 14 28 ?_;refine last_ (i:=15) (N:=some 29) #[true,true,true,true,true,true,true,true,true,true,true,true,true,true,true,true,false,false] rfl rfl (one_of HT_.out zq17) zq34 (fun K hK=>?_);refine value_ (w1:=?_) (v:=?_) (by rfl) rfl ?_ ?_;rotate_left 2
   ·go_simp
    constructor
    ·rfl
    ·rfl
   refine hK.out _ _ ?_;clear hK K;refine nZ 29 ?_;refine last_ (i:=16) (N:=some 30) #[true,true,true,true,true,true,true,true,true,true,true,true,true,true,true,true,true,false] rfl rfl (one_of HT_.out zq17) zq34 (fun K hK=>?_);refine Kd.R_append_step kE (w0:=w4) base (by rfl) (.tmp 14) (.tmp 29) 22 41 (.agg #[.slice none 0 0,(.int .i64 0),(.int .i64 0)]) 40 rfl hu22 info41 rfl zq34 zq4 u0 (putP l r (f.take i)) ⟨r,Y.f0,Y.f1⟩ [.slice Ac r.length cc,.int .i64 Y.f0,.int .i64 Y.f1] ok (fun k=>wA.drew.heap.size<=k) rfl rfl ?aP ?aK ?aF ?aO (Below.refl _ _) ?aS ?aL ?_
   case aP=>exact k41_mkM _ _ _ ⟨r,Y.f0,Y.f1⟩ (Kd.R_mono (Kd.R_lower (Kd.R_bound HRC.out) (by have:=HB0.out;have:=HGA.out.size;omega)) (fun _ h=>h.2.1))
   case aK=>exact fun k hk=>⟨HFR.out k (by have:=HGA.out.size;omega),fun e'=>by have:=(HOW.out k e'.symm).2;have:=HSA.out;omega⟩
   case aF=>exact fun k hk=>HFR.out k (by have:=HGA.out.size;have:=HBC.out.size;omega)
   case aO=>exact Kd.R_below HOA.out HBC.out
   case aS=>have:=HB0.out;have:=HGA.out.size;have:=HBC.out.size;omega
   case aL=>have:=HL.out;rw[putP,List.length_append,List.length_map,List.length_take];omega
   intro v1 w1 ho hb hg hat;have HO1:=Hd ho;have HG1:=Hd hg;have HAT1:=Hd hat;clear ho hb hg hat;refine hK.out _ _ ?_;clear hK K;refine nZ 30 ?_;refine pZ 17 0 ?_;refine done_ (done_of HT_.out zq17) ?_;go_wp2;go_roundw
   case rel =>
    refine⟨i+1,by omega,by go_num,⟨?_⟩,⟨?_⟩,⟨?_⟩,⟨?_⟩⟩
    ·have:=HO1.out
     rw[show putP l r (f.take (i+1))=putP l r (f.take i) ++ [⟨r,Y.f0,Y.f1⟩] by unfold putP;rw[List.take_add_one,List.getElem?_eq_getElem c,HYj.out];simp];exact this
    ·exact grown_trans HGA.out HAT.out (grown_step HBC.out HG1.out)
    ·exact own_at_trans HAT.out (HGA.out.size) HBC.out.size HAT1.out
    ·exact R_grown (Kd.R_below HRfA.out HBC.out) (Kd.R_below HOA.out HBC.out) zq34 HG1.out
   case measure=>simp[intOf];omega
  ·obtain rfl:i=f.length:=by omega
   go_wp2;go_ret;refine⟨_,rfl,?_,HG.out,HAT.out⟩;have:=HO.out;rw[List.take_length] at this;exact this
end Go.Proofs.YtmkgecapkeojaaaGreat.Eg
end
section
namespace Go.Proofs.YtmkgecapkeojaaaGreat.Eg
open PDa
open RowKit YtmkgecapkeojaaaGreatW.PrintWords Stp Rw Cmp Canon
open Go.Proofs.YtmkgecapkeojaaaGreat.EvP (U)
theorem mAt_mem {f g:List Jp} (hg:In50 g) (h:¬ f.length+g.length=0):∃ j ∈ f ++ g,j.f0=mAt f g:=by
 unfold mAt;cases g with
 | nil =>
  cases f with
  | nil=>simp at h
  | cons x xs=>exact⟨x,by simp,rfl⟩
 | cons y ys =>
  simp only
  split
  ·exact⟨y,by simp,rfl⟩
  ·rename_i c
   cases f with
   | nil=>exact absurd (hg y List.mem_cons_self).1 c
   | cons x xs=>exact⟨x,by simp,rfl⟩
theorem both_canon (op:Int->Int->Int):∀ (k:Nat) (f g:List Jp) (a b was:Int),Rise f->Rise g->In50 g->(bothL op k f g a b was).Pairwise (fun x y=>x.f0<y.f0) /\ ∀ x ∈ bothL op k f g a b was,x.f1 ≠ 0 /\ ∃ j ∈ f ++ g,j.f0=x.f0
 | 0,f,g,a,b,was,_,_,_=>by rw[bothL];exact⟨List.Pairwise.nil,by simp⟩
 | k+1,f,g,a,b,was,hf,hg,hi=>by
  rw[bothL]
  by_cases h0:f.length+g.length=0
  ·rw[if_pos h0];exact⟨List.Pairwise.nil,by simp⟩
  ·rw[if_neg h0]
   obtain⟨l1,l2⟩:=mAt_low hf hg;obtain⟨j0,hj0,hz⟩:=mAt_mem hi h0;generalize mAt f g=z at *;obtain⟨r1,r2⟩:=both_canon op k (popL f z) (popL g z) (a+popA f z) (b+popA g z) (op (a+popA f z) (b+popA g z)) (popL_rise hf z) (popL_rise hg z) (fun j hj=>hi j (popL_sub hj));have e1:=pop_after hf l1;have e2:=pop_after hg l2;have hs:∀ x ∈ stJ z (op (a+popA f z) (b+popA g z)) was,x.f0=z/\x.f1 ≠ 0:=by
    intro x hx;unfold stJ at hx
    split at hx
    ·rename_i c;rw[List.mem_singleton] at hx;subst hx;exact⟨rfl,by show _ - was ≠ 0;omega⟩
    ·cases hx
   refine⟨List.pairwise_append.2 ⟨?_,r1,fun x hx y hy=>?_⟩,fun x hx=>?_⟩
   ·unfold stJ;split
    ·exact List.pairwise_singleton _ _
    ·exact List.Pairwise.nil
   ·obtain⟨j,hj,hjy⟩:=(r2 y hy).2
    rw[(hs x hx).1, <- hjy]
    rcases List.mem_append.1 hj with hj | hj
    ·exact e1 j hj
    ·exact e2 j hj
   ·rcases List.mem_append.1 hx with hx | hx
    ·exact⟨(hs x hx).2,j0,hj0,by rw[hz,(hs x hx).1]⟩
    ·obtain⟨h1,j,hj,h2⟩:=r2 x hx
     refine⟨h1,j,?_,h2⟩
     rcases List.mem_append.1 hj with hj | hj
     ·exact List.mem_append_left _ (popL_sub hj)
     ·exact List.mem_append_right _ (popL_sub hj)
theorem two_is (op:Int->Int->Int) (h0:op 0 0=0) (f g:List Jp) (hf:mayJ f=true) (hg:mayJ g=true) :
  toldI (placesI (f ++ g)) ((placesI (f ++ g)).map fun p=>op (valI f p) (valI g p)) 0=bothL op (f.length+g.length) f g 0 0 0:=by
 have pf:=mayJ_parts hf;have pg:=mayJ_parts hg;have hi:In50 g:=fun j hj=>⟨(pg.2.1 j hj).2.1,okFair (pg.2.1 j hj).2.2.2⟩
 obtain⟨h,hh⟩:∃ z,bothL op (f.length+g.length) f g 0 0 0=z:=⟨_,rfl⟩
 have hv:∀ t,valI h t=op (valI f t) (valI g t):=fun t=>by
  rw[<- hh,both_val op t _ f g 0 0 0 pf.2.2 pg.2.2 hi (Nat.le_refl _) h0.symm];simp
 obtain⟨c1,c2⟩:=both_canon op (f.length+g.length) f g 0 0 0 pf.2.2 pg.2.2 hi;rw[hh] at c1 c2 ⊢;have hpl:∀ j ∈ f ++ g,-2<j.f0/\j.f0<1125899906842624:=fun j hj=>by
  rcases List.mem_append.1 hj with hj | hj
  ·exact⟨(pf.2.1 j hj).1,(pf.2.1 j hj).2.1⟩
  ·exact⟨(pg.2.1 j hj).1,(pg.2.1 j hj).2.1⟩
 have hin:∀ x ∈ h,-2<x.f0/\x.f0<1125899906842624 /\ ∃ j ∈ f ++ g,j.f0=x.f0:=fun x hx=>by
  obtain⟨_,j,hj,e⟩:=c2 x hx;exact⟨by have:=(hpl j hj).1;omega,by have:=(hpl j hj).2;omega,j,hj,e⟩
 obtain⟨hs,hm⟩:=places_fold (f ++ g) [] List.Pairwise.nil;have hz:valI h (-2)=0:=val_low (-2) h (fun x hx=>(hin x hx).1);have hJ:=told_J h (placesI (f ++ g)) (-2) hs (fun p hp=>by
  rcases (hm p).1 hp with e | ⟨x,hx,e,e2⟩
  ·simp at e
  ·have:=(hpl x hx).1;omega) (fun x hx _ c=>by
   obtain⟨j,hj,e⟩:=(hin x hx).2.2;exact (hm _).2 (.inr ⟨j,hj,e,c⟩))
 rw[hz] at hJ;have hmap:((placesI (f ++ g)).map fun p=>op (valI f p) (valI g p))=(placesI (f ++ g)).map (valI h):=List.map_congr_left fun p _=>(hv p).symm
 rw[hmap];have e:=canon_uniq ltI_ord ((toldI (placesI (f ++ g)) ((placesI (f ++ g)).map (valI h)) 0).map pJ) (h.map pJ) (told_is _ hs _ 0) ⟨List.pairwise_map.2 (c1.imp fun hlt=>DET hlt),fun x hx=>by
   obtain⟨y,hy,rfl⟩:=List.mem_map.1 hx;exact (c2 y hy).1⟩ (fun k=>by
  rw[hJ k]
  split
  ·rfl
  ·rename_i c
   rw[J_zero h k (fun x hx e=>by have:=hin x hx;omega)])
 have e':=congrArg (List.map uJ) e;rw[List.map_map,List.map_map] at e';have:(uJ ∘ pJ)=id:=by funext x;exact uJ_pJ x
 rw[this,List.map_id,List.map_id] at e';exact e'
theorem places_all (l:List Jp) (h:∀ j ∈ l,j.f0<1125899906842624):∀ acc,l.foldl (fun a x=>withI x.f0 a) acc=l.foldl placeS acc:=by
 induction l with
 | nil=>intro acc;rfl
 | cons x xs ih =>
  intro acc;rw[List.foldl_cons,List.foldl_cons,ih (fun j hj=>h j (List.mem_cons_of_mem _ hj)),placeS,if_pos (h x List.mem_cons_self)]
abbrev foldW (l:List Jp) (acc:List Int):List Int:=l.foldl (fun a x=>withI x.f0 a) acc
theorem foldW_inc:∀ (l:List Jp) (acc:List Int),acc.Pairwise (· < ·)->(foldW l acc).Pairwise (· < ·)/\(foldW l acc).length<=acc.length+l.length
 | [],acc,h=>⟨h,by simp[foldW]⟩
 | x :: xs,acc,h=>by
  obtain⟨h1,h2⟩:=foldW_inc xs (withI x.f0 acc) (withI_inc _ _ h);refine⟨h1,?_⟩;have:=withI_len x.f0 acc;have e:foldW (x :: xs) acc=foldW xs (withI x.f0 acc):=rfl;rw[e];simp only[List.length_cons];omega
end Go.Proofs.YtmkgecapkeojaaaGreat.Eg
end
section
namespace Go.Proofs.YtmkgecapkeojaaaGreat.Eg
open PDa
open RowKit YtmkgecapkeojaaaGreatW.PrintWords YtmkgecapkeojaaaGreatW.PrintLast YtmkgecapkeojaaaGreatW.PrintMore
open Stp Rw SortM
structure Hold3 (p:Prop):Prop where
 out:p
theorem hold3 {p:Prop} (h:Hold3 p):p:=h.out
def kHd {α:Type} (e:Nat) (d:Kd α) (W0:World):Kd (List α) where
 sz:=1
 E:=[]
 K:=fun _ x cs=>(Kd.slice e d).K W0 x cs
 M:=fun _ _ _ x cs=>(Kd.slice e d).K W0 x cs
 K_len:=fun h=>(Kd.slice e d).K_len h
 K_one:=fun h=>(Kd.slice e d).K_one h
 K_below:=fun _ h=>h
 K_of_M:=fun h=>h
 M_mono:=fun _ h=>h
 M_bound:=fun h=>h
 M_move:=fun _ h=>h
 M_lower:=fun _ h=>h
theorem kHd_C {α:Type} {e:Nat} {d:Kd α} {W0 W:World} {A:Option Addr} {n:Nat} {xs:List (List α)} (hb:Below W0.heap.size W0 W) (h:(kHd e d W0).C W A n xs):Kd.C (Kd.slice e d) W A n xs:=ReadsRow.imp_ h (Below.refl _ _) (fun _ _ hp=>(Kd.slice e d).K_below hb hp)
theorem kHd_up {α:Type} {e e' base:Nat} {d:Kd α} {ok:Nat->Prop} {W0 W1 w:World} {v:Value} {xs:List (List α)} (hb:Below W0.heap.size W0 W1) (h:(kHd e d W0).R e' w base ok v xs):(kHd e d W1).R e' w base ok v xs:=Kd.R_imp (d:=kHd e d W0) (d':=kHd e d W1) rfl (fun _ _ _ _ _ hp=>(Kd.slice e d).K_below hb hp) h
abbrev kH (W0:World):Kd (List Vl):=kHd tV kV W0
theorem kH_C {W0 W:World} {A:Option Addr} {n:Nat} {xs:List (List Vl)} (hb:Below W0.heap.size W0 W) (h:(kH W0).C W A n xs):Kd.C (Kd.slice tV kV) W A n xs:=ReadsRow.imp_ h (Below.refl _ _) (fun _ _ hp=>(Kd.slice tV kV).K_below hb hp)
theorem at_H {W0 W:World} {A:Option Addr} {n:Nat} {xs:List (List Vl)} (h:(kH W0).C W A n xs) (i:Nat) (r:List Vl) (hi:xs[i]? = some r):∃ ad Ax cx,A=some ad/\W.cell? (ad.add i)=some (.slice Ax r.length cx)/\r.length<=cx/\Kd.C kV W0 Ax r.length r:=by
 have hl:=(List.getElem?_eq_some_iff.1 hi).1;obtain⟨ad,c,hA,_,hK,hc⟩:=Kd.C_get h ([]:List Vl) (i:Int) zq4 (by have:=h.1;omega);rw[Int.toNat_natCast] at hK hc;rw[List.getD_eq_getElem?_getD,hi,Option.getD_some] at hK;obtain⟨Ax,cx,rfl,hx,hC⟩:=hK;have h0:=hc 0 _ rfl;rw[show i*(kH W0).sz+0=i from Nat.mul_one i] at h0;exact⟨ad,Ax,cx,hA,h0,hx,hC⟩
abbrev tR:Nat:=39
abbrev tRs:Nat:=93
abbrev insR (l:List EdP):List (List Vl):=l.foldl (fun a e=>rowIns e.f0 a) []
theorem insR_eq (l:List EdP):insR l=rowsOf l:=by
 obtain⟨h1,h2⟩:=fold_rows l [] List.Pairwise.nil;refine inc_uniq _ _ h1 (rowsOf_inc l) (fun z=>?_);rw[h2,rowsOf_mem];simp
theorem insR_len (l:List EdP):(insR l).length<=l.length:=by
 rw[insR_eq];unfold rowsOf
 induction l with
 | nil=>simp
 | cons e es ih =>
  rw[List.map_cons,List.foldr_cons];have:=rowIns_len e.f0 ((es.map (·.f0)).foldr rowIns []);simp only[List.length_cons];omega
theorem hrows_calls (A0:Option Addr) (c0:Nat) (l:List EdP) (W0 w:World) (hr0:Kd.C kE W0 A0 l.length l) (hW:Below W0.heap.size W0 w) (hl:l.length<=1000000) (hmay:∀ e ∈ l,rowMay e.f0=true) :
  Calls Tryz.prog 66 #[.slice A0 l.length c0] w fun e w'=>∃ v,e = .returned v/\(kH W0).R 39 w' w.heap.size (fun _=>True) v (rowsOf l)/\Below w.heap.size w w':=by
 have hu:=Tryz.underlying93;have HR:=Hd hr0;have HW:=Hd hW;have HM:=Hd hmay;have HL:=Hd hl;clear hr0 hW hmay hl;go_enter Tryz.func66,Tryz.ntmps66
 go_wp2_with (first | ((with_reducible refine gate_dst (N:=7) rfl ?_);refine Kd.R_lit (kH W0) _ 39 ?hg (N:=7) ?hd (xs:=([]:List (List Vl))) (inner:=[]) (ok:=fun _=>True) (okp:=fun _=>True) ?hr ?hp (fun _ hk=>hk) trivial (Below.refl _ _) (Nat.le_refl _) zq30 ?_;(case hd=>rfl);(case hg=>rfl);(case hr=>first | (go_simp;done) | (go_simp;rfl));(case hp=>exact (Reps.none _ _));intro v7 w1 ho1 hb1 hg_ hnew_;have HO1:=Hd ho1;have HB1:=Hd hb1;clear hg_ hnew_ hb1 ho1))
 go_loopw [3,4] (fun v3 v4 wr=>∃ (i:Nat) (A3:Option Addr) (c3:Nat),i<=l.length/\v4 = .int .i64 (i:Int)/\v3 = .slice A3 (insR (l.take i)).length c3/\Aside0 ((kH W0).R 39 wr w.heap.size (fun _=>True) (.slice A3 (insR (l.take i)).length c3) (insR (l.take i)))/\Aside0 (Below w.heap.size w wr)) (fun v3 v4 wr=>l.length - (intOf v4).toNat)
 case atStart =>
  obtain⟨A3,c3,rfl⟩:=Kd.R_slice HO1.out;exact⟨0,A3,c3,Nat.zero_le _,rfl,rfl,⟨HO1.out⟩,⟨HB1.out⟩⟩
 case round =>
  clear HO1 HB1;obtain⟨i,A3,c3,hi,rfl,rfl,HO,HB⟩:=hrel;have hll:=HL.out
  by_cases c:i<l.length
  ·obtain⟨X,hX⟩:∃ X,l[i]=X:=⟨_,rfl⟩
   obtain⟨RS,hRS⟩:∃ z,insR (l.take i)=z:=⟨_,rfl⟩
   have HNX:=Hd (show insR (l.take (i+1))=rowIns X.f0 RS by
    unfold insR at hRS ⊢;rw[List.take_add_one,List.getElem?_eq_getElem c,hX,Option.toList_some,List.foldl_append,hRS];rfl)
   have hrl:RS.length<=l.length:=by
    have h1:=insR_len (l.take i);rw[hRS,List.length_take] at h1;omega
   have HRM:=Hd (show ∀ r ∈ RS,rowMay r=true by
    intro r hr;rw[<- hRS,insR_eq,rowsOf_mem] at hr;obtain⟨e,he,rfl⟩:=hr;exact HM.out e (List.mem_of_mem_take he))
   have HXM:=Hd (HM.out X (by rw[<- hX];exact List.getElem_mem c));rw[hRS] at HO ⊢;obtain⟨ad,Ax,cx,e1,x0,x1,x2,x3,x4⟩:=at_T41 (Kd.C_below HR.out (HW.out.trans (HB.out.mono HW.out.size))) (i:Int) zq4 zq4;rw[Int.toNat_natCast,rdE l i c,hX] at x0;rw[rdE l i c,hX] at x3 x4;cases e1;have HX0:=Hd x0;have HXK:=Hd (show (Kd.slice tV kV).K W0 X.f0 [.slice Ax X.f0.length cx] by
    obtain⟨ad',Ax',cx',e1',y0,y1,y2,y3,y4⟩:=at_T41 HR.out (i:Int) zq4 zq4;rw[Int.toNat_natCast,rdE l i c,hX] at y0;rw[rdE l i c,hX] at y3 y4;cases e1';have h5:=pw_cell_below (HW.out.trans (HB.out.mono HW.out.size)) y0;rw[h5] at x0;injection x0 with x0
    injection x0 with q1 q2 q3
    subst q1 q3;exact⟨_,_,rfl,y3,y4⟩)
   have HXC:=Hd x4;have hxl:=x3;obtain⟨i0,hi0,_,hsz0,_⟩:=info_parts info39;have hlc:=(Kd.R_reads' HO.out).2.1;have HCT:=Hd (fun (j:Nat) (hj:j<=RS.length)=>show ∀ W:World,(Instr.slice tRs (.slice A3 RS.length c3) none (some (.int .i64 (j:Int))) none).run Tryz.prog W = .ok (.slice A3 j c3) W from
    cut_to (P:=Tryz.prog) tRs tR .i64 hu hi0 A3 RS.length c3 (j:Int) zq4 zq4 hlc)
   obtain⟨CF,hCF⟩:∃ f:Nat->Option Addr,f=fun j=>if c3=j then A3 else A3.map (·.add (j*1)):=⟨_,rfl⟩
   have HCF:=Hd (fun (j:Nat) (hj:j<=RS.length)=>show ∀ W:World,(Instr.slice tRs (.slice A3 RS.length c3) (some (.int .i64 (j:Int))) none none).run Tryz.prog W = .ok (.slice (CF j) (RS.length - j) (c3 - j)) W by
    have h:=cut_from (P:=Tryz.prog) tRs tR .i64 hu hi0 1 hsz0 A3 RS.length c3 (j:Int) zq4 zq4;rw[hCF];exact h)
   have HDR:=Hd (fun (j:Nat) (hj:j<=RS.length) (W:World) (h:(kH W0).C W A3 RS.length RS)=>show (kH W0).C W (CF j) (RS.length - j) (RS.drop j) by
    rw[hCF, <- List.length_drop];exact Kd.C_drop h hj hlc)
   clear x0 x1 x2 x3 x4 hX hRS hCF hi0 hsz0;obtain⟨wo,hwo⟩:∃ x,x=wr:=⟨_,rfl⟩
   subst hwo;go_wp2
   go_loopw [5] (fun v5 wr=>∃ (j:Nat),j<=RS.length/\v5 = .int .i64 (j:Int)/\Aside0 (∀ x ∈ RS.take j,rC x X.f0<0)/\Aside0 (Below wo.heap.size wo wr)) (fun v5 wr=>RS.length - (intOf v5).toNat)
   case atStart=>exact⟨0,Nat.zero_le _,rfl,⟨by simp⟩,⟨Below.refl _ _⟩⟩
   case round =>
    obtain⟨j,hj,rfl,HLOW,HBI⟩:=hrel;have HT:=Hd (rowIns_take X.f0 j RS HLOW.out);have HXi:=Hd (pw_cell_below HBI.out HX0.out)
    by_cases cj:j<RS.length
    ·obtain⟨Y,hY⟩:∃ Y,RS[j]=Y:=⟨_,rfl⟩
     obtain⟨a3,Ay,cy,e3,y0,y1,y2⟩:=at_L3 (kH_C (HW.out.trans ((HB.out.trans (HBI.out.mono HB.out.size)).mono HW.out.size)) (Kd.R_reads' (Kd.R_below HO.out HBI.out)).2.2) (j:Int) zq4 zq4;rw[rdR RS j cj,hY] at y0 y1 y2;rw[Int.toNat_natCast] at y0;cases e3;have hd:RS.drop j=Y :: RS.drop (j+1):=by rw[List.drop_eq_getElem_cons cj,hY]
     have hjm:=HRM.out Y (by rw[<- hY];exact List.getElem_mem cj);have hcr:=cmpR_rC hjm HXM.out;have HTJ:=Hd (show RS.take (j+1)=RS.take j ++ [Y] by rw[List.take_add_one,List.getElem?_eq_getElem cj,hY];rfl);obtain⟨kc,hkc⟩:=(ref06 Y X.f0).get;obtain⟨ks,hks⟩:=(same06 Y X.f0 (by have:=may_len hjm;omega)).get;have xC:=Kd.C_below HXC.out HBI.out;have x0':=fun p=>BelowOf.cell HXi.out p
     have y0':=fun p=>BelowOf.cell y0 p
     have pj:decide ((j:Int)<(RS.length:Int))=true:=DET zq4;have pJ:(0<=(j:Int))=True:=eq_true zq4;have qJ:((j:Int)<(RS.length:Int))=True:=eq_true zq4;have pI:(0<=(i:Int))=True:=eq_true zq4;have qI:((i:Int)<(l.length:Int))=True:=eq_true zq4;have CM:=Hd (fun (p:BelowOf wr)=>r06_Compare.calls kc Ay cy Y Ax cx X.f0 _ p.W (Kd.C_below y2 p.h) y1 (Kd.C_below xC p.h) hxl hkc);have CS:=Hd (fun (W:World) (h:Below wr.heap.size wr W)=>(r06_Same.calls ks Ay cy Y Ax cx X.f0 _ W (Kd.C_below y2 h) y1 (Kd.C_below xC h) hxl hks).mono fun e w' z=>(show e = .returned (.bool (eqR Y X.f0))/\Below W.heap.size W w' from ⟨z.1,z.2.below⟩));rw[hcr] at CM;clear y2 y1 hkc hks xC hcr hY
     by_cases hc:rC Y X.f0<0
     ·have bc:decide (rC Y X.f0<0)=true:=DET hc
      go_wp2;refine wp_region_quiet_below zq17 zq17 ?_
      repeat (go_big_quiet_step (exact below_calls (CM.out _)))
      refine wpQuiet_nil ?_;intro wq hw1;have HBN:=Hd (show Below wo.heap.size wo wq by obtain⟨p,rfl⟩:=hw1;exact HBI.out.trans (p.h.mono HBI.out.size));clear hw1 x0' y0' y0 CM CS;go_wp2;go_roundw
      case rel =>
       refine⟨j+1,by omega,by go_num,⟨fun x hx=>?_⟩,⟨HBN.out⟩⟩;rw[HTJ.out,List.mem_append] at hx
       rcases hx with hx | hx
       ·exact HLOW.out x hx
       ·rw[List.mem_singleton] at hx;subst hx;exact hc
      case measure=>simp[intOf];omega
     ·have bc:decide (rC Y X.f0<0)=false:=DEF hc
      have HNC:=Hd hc;have HD:=Hd hd;clear hc hd;go_wp2;refine wp_region_quiet_below zq17 zq17 ?_
      repeat (go_big_quiet_step (exact below_calls (CM.out _)))
      refine wpQuiet_nil ?_;intro wq hw1;have HBQ:=Hd (show Below wr.heap.size wr wq by obtain⟨p,rfl⟩:=hw1;exact p.h);have CS2:=Hd (fun (p:BelowOf wq)=>CS.out p.W (HBQ.out.trans (p.h.mono HBQ.out.size)));have x1':=fun p=>BelowOf.cell (pw_cell_below HBQ.out HXi.out) p
      have y1':=fun p=>BelowOf.cell (pw_cell_below HBQ.out y0) p
      clear hw1 x0' y0' CM CS y0;cases hs:eqR Y X.f0
      ·rw[hs] at CS2
       have he:¬ Y=X.f0:=fun e=>by rw[(eqR_iff _ _).2 e] at hs;cases hs
       have HNEW:=Hd (show insR (l.take (i+1))=RS.take j ++ [X.f0] ++ RS.drop j by
        rw[HNX.out,HT.out,HD.out,rowIns,if_neg (by have:=HNC.out;omega),if_neg he,List.append_assoc];rfl)
       clear he hs;go_wp2;refine wp_region_quiet_below zq17 zq17 ?_
       repeat (go_big_quiet_step (exact below_calls (CS2.out _)))
       refine wpQuiet_nil ?_;intro wz hw2;have HBZ:=Hd (show Below wo.heap.size wo wz by obtain⟨p,rfl⟩:=hw2;exact (HBI.out.trans (HBQ.out.mono HBI.out.size)).trans (p.h.mono (Nat.le_trans HBI.out.size HBQ.out.size)));clear hw2;have HXZ:=Hd (pw_cell_below HBZ.out HX0.out);have HOZ:=Hd (Kd.R_below HO.out HBZ.out);have hct:=HCT.out j hj;have hcf:=HCF.out j hj;have HDZ:=Hd (HDR.out j hj);obtain⟨AF,hAF⟩:∃ z,CF j=z:=⟨_,rfl⟩
       rw[hAF] at hcf HDZ;clear hAF
       go_wp2_with (first
        | ((with_reducible refine gate_dst (N:=49) rfl ?_);refine Kd.R_lit (kH W0) _ tR ?hg (N:=49) ?hd (xs:=([]:List (List Vl))) (inner:=[]) (ok:=fun _=>True) (okp:=fun _=>True) ?hr ?hp (fun _ hk=>hk) trivial (Below.refl _ _) (Nat.le_refl _) zq30 ?_;(case hd=>rfl);(case hg=>rfl);(case hr=>first | (go_simp;done) | (go_simp;rfl));(case hp=>exact (Reps.none _ _));intro v49 wa ho hb hg_ hnew_;have HOA:=Hd ho;have HBA:=Hd hb;clear ho hb hg_ hnew_)
        | ((with_reducible refine gate_dst (N:=53) rfl ?_);refine Kd.R_append_rows (kH W0) (w0:=wz) wz.heap.size rfl (.tmp 49) (.tmp 52) tRs tR (.slice none 0 0) 24 rfl hu info39 rfl Nat.one_pos zq4 v49 [] (RS.take j) _ _ _ (fun _=>True) (fun _=>False) rfl rfl HOA.out ?aR (fun _ _ h=>h) (fun _ h=>h.elim) (fun _ _=>trivial) HBA.out HBA.out.size ?aL ?_;(case aR=>have h:=Kd.C_take (Kd.R_reads' (Kd.R_below HOZ.out HBA.out)).2.2 hj;rw[List.length_take,Nat.min_eq_left hj] at h;exact h);(case aL=>rw[List.length_nil];omega);intro v53 wb ho hb hg_ hnew_;have HOB:=Hd (show (kH W0).R tR wb wz.heap.size (fun _=>True) v53 (RS.take j) from ho);have HBB:=Hd hb;have xb:=pw_cell_below hb HXZ.out;clear ho hb hg_ hnew_)
        | ((with_reducible refine gate_dst (N:=61) rfl ?_);at_builtin;refine Kd.R_append (kH W0) (w0:=wz) wz.heap.size rfl (.tmp 54) (.tmp 60) tRs tR (.slice none 0 0) 24 rfl hu info39 rfl Nat.one_pos zq4 v53 (RS.take j) X.f0 [.slice Ax X.f0.length cx] (fun _=>True) (fun _=>False) rfl rfl HXK.out (fun _ h=>h.elim) (fun _ _=>trivial) HOB.out HBB.out HBB.out.size ?aL ?_;(case aL=>rw[List.length_take];omega);intro v61 wc ho hb hg_ hnew_;have HOC:=Hd ho;have HBC:=Hd hb;clear ho hb hg_ hnew_)
        | ((with_reducible refine gate_dst (N:=66) rfl ?_);refine Kd.R_append_rows (kH W0) (w0:=wz) wz.heap.size rfl (.tmp 62) (.tmp 65) tRs tR (.slice none 0 0) 24 rfl hu info39 rfl Nat.one_pos zq4 v61 (RS.take j ++ [X.f0]) (RS.drop j) _ _ _ (fun _=>True) (fun _=>False) rfl rfl HOC.out ?aR (fun _ _ h=>h) (fun _ h=>h.elim) (fun _ _=>trivial) HBC.out HBC.out.size ?aL ?_;(case aR=>exact HDZ.out wc (Kd.R_reads' (Kd.R_below HOZ.out HBC.out)).2.2);(case aL=>rw[List.length_append,List.length_take,List.length_singleton];omega);intro v66 wd ho hb hg_ hnew_;have HOD:=Hd ho;have HBD:=Hd hb;clear ho hb hg_ hnew_))
       obtain⟨AD,cD,rfl⟩:=Kd.R_slice HOD.out;go_roundw
       case rel=>exact⟨i+1,AD,cD,by omega,by go_num,by rw[HNEW.out],⟨by rw[HNEW.out];exact Kd.R_lower HOD.out (Nat.le_trans HB.out.size HBZ.out.size)⟩,⟨(HB.out.trans (HBZ.out.mono HB.out.size)).trans (HBD.out.mono (Nat.le_trans HB.out.size HBZ.out.size))⟩⟩
       case measure=>simp[intOf];omega
      ·rw[hs] at CS2
       have he:=(eqR_iff _ _).1 hs;have HNEW:=Hd (show insR (l.take (i+1))=RS by
        rw[HNX.out,HT.out,HD.out,rowIns,if_neg (by have:=HNC.out;omega),if_pos he, <- HD.out,List.take_append_drop])
       clear he hs;go_wp2;refine wp_region_quiet_below zq17 zq17 ?_
       repeat (go_big_quiet_step (exact below_calls (CS2.out _)))
       refine wpQuiet_nil ?_;intro wz hw2;have HBZ:=Hd (show Below wo.heap.size wo wz by obtain⟨p,rfl⟩:=hw2;exact (HBI.out.trans (HBQ.out.mono HBI.out.size)).trans (p.h.mono (Nat.le_trans HBI.out.size HBQ.out.size)));clear hw2 x1' y1' CS2;go_wp2;go_roundw
       case rel=>exact⟨i+1,_,_,by omega,by go_num,by rw[HNEW.out],⟨by rw[HNEW.out];exact Kd.R_below HO.out HBZ.out⟩,⟨HB.out.trans (HBZ.out.mono HB.out.size)⟩⟩
       case measure=>simp[intOf];omega
    ·have pj:decide ((j:Int)<(RS.length:Int))=false:=DEF zq4
     have HNEW:=Hd (show insR (l.take (i+1))=RS.take j ++ [X.f0] ++ RS.drop j by
      rw[HNX.out,HT.out,List.drop_eq_nil_of_le zq4,rowIns,List.append_nil])
     go_wp2;refine wp_region_quiet_below zq17 zq17 ?_
     repeat (go_big_quiet_step (fail))
     refine wpQuiet_nil ?_;intro wq hw1;have HBQ:=Hd (show Below wr.heap.size wr wq by obtain⟨p,rfl⟩:=hw1;exact p.h);clear hw1;go_wp2;refine wp_region_quiet_below zq17 zq17 ?_
     repeat (go_big_quiet_step (fail))
     refine wpQuiet_nil ?_;intro wz hw2;have HBZ:=Hd (show Below wo.heap.size wo wz by obtain⟨p,rfl⟩:=hw2;exact (HBI.out.trans (HBQ.out.mono HBI.out.size)).trans (p.h.mono (Nat.le_trans HBI.out.size HBQ.out.size)));clear hw2;have HXZ:=Hd (pw_cell_below HBZ.out HX0.out);have HOZ:=Hd (Kd.R_below HO.out HBZ.out);have hct:=HCT.out j hj;have hcf:=HCF.out j hj;have HDZ:=Hd (HDR.out j hj);obtain⟨AF,hAF⟩:∃ z,CF j=z:=⟨_,rfl⟩
     rw[hAF] at hcf HDZ;clear hAF
     go_wp2_with (first
      | ((with_reducible refine gate_dst (N:=49) rfl ?_);refine Kd.R_lit (kH W0) _ tR ?hg (N:=49) ?hd (xs:=([]:List (List Vl))) (inner:=[]) (ok:=fun _=>True) (okp:=fun _=>True) ?hr ?hp (fun _ hk=>hk) trivial (Below.refl _ _) (Nat.le_refl _) zq30 ?_;(case hd=>rfl);(case hg=>rfl);(case hr=>first | (go_simp;done) | (go_simp;rfl));(case hp=>exact (Reps.none _ _));intro v49 wa ho hb hg_ hnew_;have HOA:=Hd ho;have HBA:=Hd hb;clear ho hb hg_ hnew_)
      | ((with_reducible refine gate_dst (N:=53) rfl ?_);refine Kd.R_append_rows (kH W0) (w0:=wz) wz.heap.size rfl (.tmp 49) (.tmp 52) tRs tR (.slice none 0 0) 24 rfl hu info39 rfl Nat.one_pos zq4 v49 [] (RS.take j) _ _ _ (fun _=>True) (fun _=>False) rfl rfl HOA.out ?aR (fun _ _ h=>h) (fun _ h=>h.elim) (fun _ _=>trivial) HBA.out HBA.out.size ?aL ?_;(case aR=>have h:=Kd.C_take (Kd.R_reads' (Kd.R_below HOZ.out HBA.out)).2.2 hj;rw[List.length_take,Nat.min_eq_left hj] at h;exact h);(case aL=>rw[List.length_nil];omega);intro v53 wb ho hb hg_ hnew_;have HOB:=Hd (show (kH W0).R tR wb wz.heap.size (fun _=>True) v53 (RS.take j) from ho);have HBB:=Hd hb;have xb:=pw_cell_below hb HXZ.out;clear ho hb hg_ hnew_)
      | ((with_reducible refine gate_dst (N:=61) rfl ?_);at_builtin;refine Kd.R_append (kH W0) (w0:=wz) wz.heap.size rfl (.tmp 54) (.tmp 60) tRs tR (.slice none 0 0) 24 rfl hu info39 rfl Nat.one_pos zq4 v53 (RS.take j) X.f0 [.slice Ax X.f0.length cx] (fun _=>True) (fun _=>False) rfl rfl HXK.out (fun _ h=>h.elim) (fun _ _=>trivial) HOB.out HBB.out HBB.out.size ?aL ?_;(case aL=>rw[List.length_take];omega);intro v61 wc ho hb hg_ hnew_;have HOC:=Hd ho;have HBC:=Hd hb;clear ho hb hg_ hnew_)
      | ((with_reducible refine gate_dst (N:=66) rfl ?_);refine Kd.R_append_rows (kH W0) (w0:=wz) wz.heap.size rfl (.tmp 62) (.tmp 65) tRs tR (.slice none 0 0) 24 rfl hu info39 rfl Nat.one_pos zq4 v61 (RS.take j ++ [X.f0]) (RS.drop j) _ _ _ (fun _=>True) (fun _=>False) rfl rfl HOC.out ?aR (fun _ _ h=>h) (fun _ h=>h.elim) (fun _ _=>trivial) HBC.out HBC.out.size ?aL ?_;(case aR=>exact HDZ.out wc (Kd.R_reads' (Kd.R_below HOZ.out HBC.out)).2.2);(case aL=>rw[List.length_append,List.length_take,List.length_singleton];omega);intro v66 wd ho hb hg_ hnew_;have HOD:=Hd ho;have HBD:=Hd hb;clear ho hb hg_ hnew_))
     obtain⟨AD,cD,rfl⟩:=Kd.R_slice HOD.out;go_roundw
     case rel=>exact⟨i+1,AD,cD,by omega,by go_num,by rw[HNEW.out],⟨by rw[HNEW.out];exact Kd.R_lower HOD.out (Nat.le_trans HB.out.size HBZ.out.size)⟩,⟨(HB.out.trans (HBZ.out.mono HB.out.size)).trans (HBD.out.mono (Nat.le_trans HB.out.size HBZ.out.size))⟩⟩
     case measure=>simp[intOf];omega
  ·obtain rfl:i=l.length:=by omega
   rw[List.take_length,insR_eq] at HO ⊢;go_wp2;go_ret;exact⟨_,rfl,HO.out,HB.out⟩
end Go.Proofs.YtmkgecapkeojaaaGreat.Eg
end
section
namespace Go.Proofs.YtmkgecapkeojaaaGreat.Eg
open PDa
open RowKit YtmkgecapkeojaaaGreatW.PrintWords YtmkgecapkeojaaaGreatW.PrintLast YtmkgecapkeojaaaGreatW.PrintMore
open Stp Rw
abbrev kI:=Kd.int .i64
abbrev tI:Nat:=3
theorem hwith_calls (A0:Option Addr) (c0:Nat) (l:List Int) (t:Int) (w:World) (hr0:Kd.C kI w A0 l.length l) (hc0:l.length<=c0) (hl:l.length<=1000000) (hs:l.Pairwise (· < ·)) :
  Calls Tryz.prog 140 #[.slice A0 l.length c0,.int .i64 t] w fun e w'=>∃ A c,e = .returned (.slice A (withI t l).length c)/\(withI t l).length<=c/\Kd.C kI w' A (withI t l).length (withI t l)/\Below w.heap.size w w':=by
 have huI:=Tryz.underlying53;have HR:=Hd hr0;have HC:=Hd hc0;have HL:=Hd hl;have HS:=Hd hs;clear hr0 hc0 hl hs;go_enter Tryz.func140,Tryz.ntmps140
 go_wp2_with
  ((with_reducible refine gate_dst (N:=8) rfl ?_);refine Kd.R_lit kI _ tI ?hg (N:=8) ?hd (xs:=([]:List Int)) (inner:=[]) (ok:=fun _=>True) (okp:=fun _=>True) ?hr ?hp (fun _ hk=>hk) trivial (Below.refl _ _) (Nat.le_refl _) zq30 ?_;(case hd=>rfl);(case hg=>rfl);(case hr=>first | (go_simp;done) | (go_simp;rfl));(case hp=>exact (Reps.none _ _));intro vL wL ho hb hg_ hnew_;have HOL:=Hd ho;have HBL:=Hd hb;clear ho hb hg_ hnew_)
 go_loopw [5,6,7] (fun v5 v6 v7 wr=>∃ (i:Nat) (put:Bool) (out:List Int) (A5:Option Addr) (c5:Nat),i<=l.length/\v7 = .int .i64 (i:Int)/\v6 = .bool put/\v5 = .slice A5 out.length c5/\Aside0 (Kd.R kI tI wr w.heap.size (fun _=>True) (.slice A5 out.length c5) out)/\Aside0 (Below w.heap.size w wr) /\
  Aside0 (out.length<=i+1)/\Aside0 (if put=true then withI t l=out ++ l.drop i /\ ∀ x ∈ l.drop i,t<x else out=l.take i/\withI t l=out ++ withI t (l.drop i))) (fun v5 v6 v7 wr=>l.length - (intOf v7).toNat)
 case atStart =>
  obtain⟨A5,c5,rfl⟩:=Kd.R_slice HOL.out;exact⟨0,false,[],A5,c5,Nat.zero_le _,rfl,rfl,rfl,⟨HOL.out⟩,⟨HBL.out⟩,⟨Nat.zero_le _⟩,⟨by simp⟩⟩
 case round =>
  clear HOL HBL;obtain⟨i,put,out,A5,c5,hi,rfl,rfl,rfl,HO,HB,HN,HE⟩:=hrel;have hll:=HL.out
  by_cases c:i<l.length
  ·obtain⟨x,hx⟩:∃ x,l[i]=x:=⟨_,rfl⟩
   obtain⟨ad,e1,x0⟩:=Kd.at_int (Kd.C_below HR.out HB.out) (i:Int) zq4 zq4;have hrd:rd l (i:Int)=x:=by rw[rdI l i c,hx]
   rw[Int.toNat_natCast,hrd] at x0;cases e1;have HD:=Hd (show l.drop i=x :: l.drop (i+1) by rw[List.drop_eq_getElem_cons c,hx]);have HTK:=Hd (show l.take (i+1)=l.take i ++ [x] by rw[List.take_add_one,List.getElem?_eq_getElem c,hx];rfl);have HX0:=Hd (show w.cell? (ad.add i)=some (.int .i64 x) by
    obtain⟨ad',e',y0⟩:=Kd.at_int HR.out (i:Int) zq4 zq4;rw[Int.toNat_natCast,hrd] at y0;cases e';exact y0)
   have HGT:=Hd (show ∀ y ∈ l.drop (i+1),x<y from by
    have h:=List.Pairwise.sublist (List.drop_sublist i l) HS.out;rw[HD.out] at h;exact (List.pairwise_cons.1 h).1)
   have pI:(0<=(i:Int))=True:=eq_true zq4;have qI:((i:Int)<(l.length:Int))=True:=eq_true zq4;have hwr:=wrapN i zq4;clear hrd hx
   by_cases hxt:x=t
   ·have b0:(x == t)=true:=beq_iff_eq.mpr hxt
    have HV:=Hd (show withI t l=l by
     cases put with
     | true =>
      have h:=HE.out;rw[if_pos rfl] at h;have:=h.2 x (by rw[HD.out];exact List.mem_cons_self);omega
     | false =>
      have h:=HE.out;rw[if_neg zq34] at h;rw[h.2,h.1,HD.out,withI,if_pos hxt, <- HD.out,List.take_append_drop])
    clear hxt;go_wp2;go_ret;rw[HV.out];exact⟨some ad,c0,rfl,HC.out,Kd.C_below HR.out HB.out,HB.out⟩
   ·have b0:(x == t)=false:=BNM hxt
    have HNE:=Hd hxt;clear hxt;cases put with
    | true =>
     have h:=HE.out;rw[if_pos rfl] at h;have HE2:=Hd (show withI t l=(out ++ [x]) ++ l.drop (i+1) /\ ∀ y ∈ l.drop (i+1),t<y from ⟨by rw[h.1,HD.out];simp,fun y hy=>h.2 y (by rw[HD.out];exact List.mem_cons_of_mem _ hy)⟩);have b1:decide (x > t)=true:=DET (h.2 x (by rw[HD.out];exact List.mem_cons_self));clear h
     go_wp2_with
      ((with_reducible refine gate_dst (N:=42) rfl ?_);at_builtin;refine Kd.R_append kI (w0:=w) w.heap.size rfl (.tmp 36) (.tmp 41) 53 tI (.int .i64 0) 8 rfl huI info3 rfl zq34 zq4 (.slice A5 out.length c5) out x [.int .i64 x] (fun _=>True) (fun _=>False) rfl rfl ?aP (fun _ h=>h.elim) (fun _ _=>trivial) HO.out HB.out HB.out.size ?aL ?_;(case aP=>rfl);(case aL=>have:=HN.out;omega);intro vP wP ho hb hg_ hnew_;obtain⟨AP,cP,rfl⟩:=Kd.R_slice ho;rw[List.length_append,List.length_singleton] at ho;have HOP:=Hd ho;have HBP:=Hd hb;skip;clear ho hb hg_ hnew_)
     go_roundw
     case rel=>exact⟨i+1,true,out ++ [x],AP,cP,by omega,(by first | rw[hwr] | go_num),rfl,by rw[List.length_append];rfl,⟨by rw[List.length_append];exact HOP.out⟩,⟨HBP.out⟩,⟨by have:=HN.out;rw[List.length_append,List.length_singleton];omega⟩,⟨by rw[if_pos rfl];exact HE2.out⟩⟩
     case measure=>first | (rw[hwr];simp[intOf];omega) | (simp[intOf];omega)
    | false =>
     have h:=HE.out;rw[if_neg zq34] at h
     by_cases hgt:x > t
     ·have b1:decide (x > t)=true:=DET hgt
      have HE2:=Hd (show withI t l=((out ++ [t]) ++ [x]) ++ l.drop (i+1) /\ ∀ y ∈ l.drop (i+1),t<y from ⟨by rw[h.2,HD.out,withI,if_neg HNE.out,if_pos (show t<x from hgt)];simp,fun y hy=>by have:=HGT.out y hy;omega⟩);have HNI:=Hd (show out.length<=i by rw[h.1,List.length_take];omega);clear h hgt
      go_wp2_with (first
       |
       ((with_reducible refine gate_dst (N:=35) rfl ?_);at_builtin;refine Kd.R_append kI (w0:=w) w.heap.size rfl (.tmp 32) (.tmp 34) 53 tI (.int .i64 0) 8 rfl huI info3 rfl zq34 zq4 (.slice A5 out.length c5) out t [.int .i64 t] (fun _=>True) (fun _=>False) rfl rfl ?aP (fun _ h=>h.elim) (fun _ _=>trivial) HO.out HB.out HB.out.size ?aL ?_;(case aP=>rfl);(case aL=>have:=HN.out;omega);intro vP wP ho hb hg_ hnew_;obtain⟨AP,cP,rfl⟩:=Kd.R_slice ho;rw[List.length_append,List.length_singleton] at ho;have HOP:=Hd ho;have HBP:=Hd hb;have y0:=pw_cell_below hb HX0.out;clear ho hb hg_ hnew_)
       |
       ((with_reducible refine gate_dst (N:=42) rfl ?_);at_builtin;refine Kd.R_append kI (w0:=w) w.heap.size rfl (.tmp 36) (.tmp 41) 53 tI (.int .i64 0) 8 rfl huI info3 rfl zq34 zq4 (.slice AP (out.length+1) cP) (out ++ [t]) x [.int .i64 x] (fun _=>True) (fun _=>False) rfl rfl ?aP (fun _ h=>h.elim) (fun _ _=>trivial) HOP.out HBP.out HBP.out.size ?aL ?_;(case aP=>rfl);(case aL=>have:=HN.out;rw[List.length_append,List.length_singleton];omega);intro vQ wQ ho hb hg_ hnew_;obtain⟨AQ,cQ,rfl⟩:=Kd.R_slice ho;rw[List.length_append,List.length_singleton] at ho;have HOQ:=Hd ho;have HBQ:=Hd hb;skip;clear ho hb hg_ hnew_)
       )
      go_roundw
      case rel=>exact⟨i+1,true,(out ++ [t]) ++ [x],AQ,cQ,by omega,(by first | rw[hwr] | go_num),rfl,by rw[List.length_append,List.length_append];rfl,⟨by rw[List.length_append];exact HOQ.out⟩,⟨HBQ.out⟩,⟨by have h1:=HNI.out;clear hwr;simp only[List.length_append,List.length_singleton];omega⟩,⟨by rw[if_pos rfl];exact HE2.out⟩⟩
      case measure=>first | (rw[hwr];simp[intOf];omega) | (simp[intOf];omega)
     ·have b1:decide (x > t)=false:=DEF hgt
      have HE2:=Hd (show out ++ [x]=l.take (i+1)/\withI t l=(out ++ [x]) ++ withI t (l.drop (i+1)) from ⟨by rw[HTK.out,h.1],by rw[h.2,HD.out,withI,if_neg HNE.out,if_neg (show ¬ t<x from hgt)];simp⟩);clear h hgt
      go_wp2_with
       ((with_reducible refine gate_dst (N:=42) rfl ?_);at_builtin;refine Kd.R_append kI (w0:=w) w.heap.size rfl (.tmp 36) (.tmp 41) 53 tI (.int .i64 0) 8 rfl huI info3 rfl zq34 zq4 (.slice A5 out.length c5) out x [.int .i64 x] (fun _=>True) (fun _=>False) rfl rfl ?aP (fun _ h=>h.elim) (fun _ _=>trivial) HO.out HB.out HB.out.size ?aL ?_;(case aP=>rfl);(case aL=>have:=HN.out;omega);intro vP wP ho hb hg_ hnew_;obtain⟨AP,cP,rfl⟩:=Kd.R_slice ho;rw[List.length_append,List.length_singleton] at ho;have HOP:=Hd ho;have HBP:=Hd hb;skip;clear ho hb hg_ hnew_)
      go_roundw
      case rel=>exact⟨i+1,false,out ++ [x],AP,cP,by omega,(by first | rw[hwr] | go_num),rfl,by rw[List.length_append];rfl,⟨by rw[List.length_append];exact HOP.out⟩,⟨HBP.out⟩,⟨by have:=HN.out;rw[List.length_append,List.length_singleton];omega⟩,⟨by rw[if_neg zq34];exact HE2.out⟩⟩
      case measure=>first | (rw[hwr];simp[intOf];omega) | (simp[intOf];omega)
  ·obtain rfl:i=l.length:=by omega
   rw[List.drop_length,List.take_length,List.append_nil] at HE;cases put with
   | true =>
    have HV:=Hd (show withI t l=out by have h:=HE.out;rw[if_pos rfl] at h;exact h.1);go_wp2;go_ret;rw[HV.out];exact⟨A5,c5,rfl,(Kd.R_reads' HO.out).2.1,(Kd.R_reads' HO.out).2.2,HB.out⟩
   | false =>
    have HV:=Hd (show withI t l=out ++ [t] by have h:=HE.out;rw[if_neg zq34] at h;exact h.2)
    go_wp2_with
     ((with_reducible refine gate_dst (N:=48) rfl ?_);at_builtin;refine Kd.R_append kI (w0:=w) w.heap.size rfl (.tmp 45) (.tmp 47) 53 tI (.int .i64 0) 8 rfl huI info3 rfl zq34 zq4 (.slice A5 out.length c5) out t [.int .i64 t] (fun _=>True) (fun _=>False) rfl rfl ?aP (fun _ h=>h.elim) (fun _ _=>trivial) HO.out HB.out HB.out.size ?aL ?_;(case aP=>rfl);(case aL=>have:=HN.out;omega);intro vP wP ho hb hg_ hnew_;obtain⟨AP,cP,rfl⟩:=Kd.R_slice ho;rw[List.length_append,List.length_singleton] at ho;have HOP:=Hd ho;have HBP:=Hd hb;skip;clear ho hb hg_ hnew_)
    go_ret;rw[HV.out];rw[List.length_append];exact⟨AP,cP,rfl,(Kd.R_reads' HOP.out).2.1,by have h:=(Kd.R_reads' HOP.out).2.2;rw[List.length_append] at h;exact h,HBP.out⟩
end Go.Proofs.YtmkgecapkeojaaaGreat.Eg
end
