/- Texts of this claim, put together by a program: PartsA, LiveA, HTwo, LawT, JoinT, RefPairs, HTable, RefParts, LawFW, LawAP, RefAlone, Ahead, AheadP, AloneP, LawAN, WSized. -/
import Derived.Test.YtmkgecapkeojaaaGreatJ13
import Derived.SizedLaws
import Derived.ChangeSlices
set_option linter.unusedVariables false
set_option linter.unusedSimpArgs false
set_option maxHeartbeats 8000000
set_option maxRecDepth 100000
section
namespace Go.Proofs.YtmkgecapkeojaaaGreat.Eg
open PDa EvP
open RowKit YtmkgecapkeojaaaGreatW.PrintWords YtmkgecapkeojaaaGreatW.PrintLast YtmkgecapkeojaaaGreatW.PrintMore
open Stp Rw
def partnersV (hh:List Rw.Vl->Bool × Int) (ef:Int) (x:Gq) (l:List EdP):List Jp × Int :=
 if (rowMay x.1 && mayJ x.2 && mayE l)=true then (if tableE l=true then (if ef ≠ 0 then ([],ef) else partsR hh x [] (runsP l)) else ([],20)) else ([],2)
theorem Partners_calls (hh:List Rw.Vl->Bool × Int) (fe:Int) (x:Gq) (Ar Af A0 A1:Option Addr) (cr cf c0 c1:Nat) (l:List EdP) (ex:List Op8) (w:World) (ha:Kd.C kV w Ar x.1.length x.1/\x.1.length<=cr) (hf:Kd.C kJ w Af x.2.length x.2/\x.2.length<=cf)
  (hr0:Kd.C kE w A0 l.length l) (hrow:∀ e ∈ l,e.f0.length<=4398046511104) (hr1:Kd.C kO w A1 ex.length ex) (hc1:ex.length<=c1) (hhk:∀ y ∈ runsP l,(joinV x.1 y.1).2=0 -> ∃ k,eval_Holds.f k ex (joinV x.1 y.1).1=some (hh (joinV x.1 y.1).1)) (hfk:∃ k,expr_Form.f k ex=some fe) :
  Calls Tryz.prog 41 #[.slice Ar x.1.length cr,.slice Af x.2.length cf,.slice A0 l.length c0,.slice A1 ex.length c1] w fun e w'=>∃ v,e = .returned (.tuple #[v,.int .i64 (partnersV hh fe x l).2])/\Kd.R kJ tJ w' w.heap.size (fun _=>True) v (partnersV hh fe x l).1/\Below w.heap.size w w':=by
 have M1:=Hd (fun (w1:World) (h:Below w.heap.size w w1)=>row_May.calls Ar cr x.1 (rowMay x.1) w1 (Kd.C_below ha.1 h) ha.2 rfl);have M2:=Hd (fun (w1:World) (h:Below w.heap.size w w1)=>may_any Af cf x.2 w1 (Kd.C_below hf.1 h) hf.2);have M3:=Hd (fun (w1:World) (h:Below w.heap.size w w1)=>May_calls A0 c0 l w1 (Kd.C_below hr0 h) hrow);have M4:=Hd (fun (w1:World) (h:Below w.heap.size w w1)=>Table_calls A0 c0 l w1 (Kd.C_below hr0 h) hrow);have FC:=Hd (fun (w1:World) (h:Below w.heap.size w w1)=>(show Calls Tryz.prog 47 #[.slice A1 ex.length c1] w1 fun e w'=>e = .returned (.int .i64 fe)/\Below w1.heap.size w1 w' from hfk.elim fun k hk=>expr_Form.calls k A1 c1 ex fe w1 (Kd.C_below hr1 h) hc1 hk));have PC:=Hd (fun (hm:mayE l=true) (w1:World) (h:Below w.heap.size w w1)=>partners_calls hh x Ar Af A0 A1 cr cf c0 c1 l ex w1 ⟨Kd.C_below ha.1 h,ha.2⟩ ⟨Kd.C_below hf.1 h,hf.2⟩ (Kd.C_below hr0 h) hrow hm (Kd.C_below hr1 h) hc1 hhk);obtain⟨o,ho⟩:∃ o,partsR hh x [] (runsP l)=o:=⟨_,rfl⟩
 have HPV:=Hd (show partnersV hh fe x l=if (rowMay x.1 && mayJ x.2 && mayE l)=true then (if tableE l=true then (if fe ≠ 0 then ([],fe) else o) else ([],20)) else ([],2) by rw[<- ho];rfl);obtain⟨P,hP⟩:∃ z,partnersV hh fe x l=z:=⟨_,rfl⟩
 rw[hP] at HPV ⊢;rw[ho] at PC;obtain⟨b1,hb1⟩:∃ z,rowMay x.1=z:=⟨_,rfl⟩
 obtain⟨b2,hb2⟩:∃ z,mayJ x.2=z:=⟨_,rfl⟩
 obtain⟨b3,hb3⟩:∃ z,mayE l=z:=⟨_,rfl⟩
 obtain⟨b4,hb4⟩:∃ z,tableE l=z:=⟨_,rfl⟩
 rw[hb1] at M1 HPV;rw[hb2] at M2 HPV;rw[hb3] at M3 HPV PC;rw[hb4] at M4 HPV;obtain⟨nr,hnr⟩:∃ n,x.1.length=n:=⟨_,rfl⟩
 obtain⟨nf,hnf⟩:∃ n,x.2.length=n:=⟨_,rfl⟩
 rw[hnr] at M1 PC ⊢;rw[hnf] at M2 PC ⊢;clear ha hf hr0 hrow hr1 hc1 hhk hfk ho hnr hnf hP hb1 hb2 hb3 hb4;go_enter Tryz.func41,Tryz.ntmps41
 go_wp2_with fail
 refine (M1.out _ (Below.refl _ _)).mono ?_;rintro e w1 ⟨rfl,hb⟩;have HBX:=Hd hb;clear hb M1;cases b1 with
 | false =>
  have HV:=Hd (show P=([],2) by rw[HPV.out];simp);go_wp2;go_ret2;rw[HV.out];exact⟨_,rfl,Kd.R_nil _ _ _ _ _,HBX.out⟩
 | true =>
 have HB1:=Hd HBX.out;clear HBX
 go_wp2_with fail
 refine (M2.out _ HB1.out).mono ?_;rintro e w2 ⟨rfl,hb⟩;have HBX:=Hd (HB1.out.trans (hb.mono HB1.out.size));clear hb M2;cases b2 with
 | false =>
  have HV:=Hd (show P=([],2) by rw[HPV.out];simp);go_wp2;go_ret2;rw[HV.out];exact⟨_,rfl,Kd.R_nil _ _ _ _ _,HBX.out⟩
 | true =>
 have HB2:=Hd HBX.out;clear HBX
 go_wp2_with fail
 refine (M3.out _ HB2.out).mono ?_;rintro e w3 ⟨rfl,hb⟩;have HBX:=Hd (HB2.out.trans (hb.mono HB2.out.size));clear hb M3;cases b3 with
 | false =>
  have HV:=Hd (show P=([],2) by rw[HPV.out];simp);go_wp2;go_ret2;rw[HV.out];exact⟨_,rfl,Kd.R_nil _ _ _ _ _,HBX.out⟩
 | true =>
 have HB3:=Hd HBX.out;clear HBX
 go_wp2_with fail
 refine (M4.out _ HB3.out).mono ?_;rintro e w4 ⟨rfl,hb⟩;have HBX:=Hd (HB3.out.trans (hb.mono HB3.out.size));clear hb M4;cases b4 with
 | false =>
  have HV:=Hd (show P=([],20) by rw[HPV.out];simp);go_wp2;go_ret2;rw[HV.out];exact⟨_,rfl,Kd.R_nil _ _ _ _ _,HBX.out⟩
 | true =>
 have HB4:=Hd HBX.out;clear HBX
 go_wp2_with fail
 refine (FC.out _ HB4.out).mono ?_;rintro e w5 ⟨rfl,hb⟩;have HBX:=Hd (HB4.out.trans (hb.mono HB4.out.size));clear hb FC
 by_cases hfe:fe=0
 rotate_left
 ·have hne:(fe != 0)=true:=bne_iff_ne.mpr hfe
  have HV:=Hd (show P=([],fe) by rw[HPV.out];simp[hfe]);clear hfe;go_wp2;go_ret2;rw[HV.out];exact⟨_,rfl,Kd.R_nil _ _ _ _ _,HBX.out⟩
 ·subst hfe
  have HV:=Hd (show P=o by rw[HPV.out];simp);have HB5:=Hd HBX.out;clear HBX HPV
  go_wp2_with fail
  refine (PC.out (by trivial) _ HB5.out).mono ?_;rintro e w6 ⟨v,rfl,hR,hb⟩;have HR:=Hd (Kd.R_lower hR HB5.out.size);have HB6:=Hd (HB5.out.trans (hb.mono HB5.out.size));clear hR hb;go_wp2;go_ret2;rw[HV.out];exact⟨v,rfl,HR.out,HB6.out⟩
def aloneV (hh:List Rw.Vl->Bool × Int) (ef:Int) (l r:List EdP):List EdP × Int :=
 if (mayE l && mayE r)=true then (if (tableE l && tableE r)=true then (if ef ≠ 0 then ([],ef) else if (alR hh (runsP r) [] (runsP l)).2 ≠ 0 then ([],(alR hh (runsP r) [] (runsP l)).2) else normV (alR hh (runsP r) [] (runsP l)).1) else ([],20)) else ([],2)
theorem alone_is {hh:List Rw.Vl->Bool × Int} {ef:Int} {l r:List EdP} {o:List EdP × Int} (h:AloneIs hh ef l r o):o=aloneV hh ef l r:=by
 unfold aloneV
 rcases h with ⟨h1,h2⟩ | ⟨h1,h2,h3⟩ | ⟨h1,h2,h3,h4⟩ | ⟨⟨h1,h2,h3⟩,⟨h4,h5⟩ | ⟨h4,h5⟩⟩
 ·rw[if_neg (by rw[h1];decide),h2]
 ·rw[if_pos h1,if_neg (by rw[h2];decide),h3]
 ·rw[if_pos h1,if_pos h2,if_pos h3,h4]
 ·rw[if_pos h1,if_pos h2,if_neg (by simpa using h3),if_pos h4,h5]
 ·rw[if_pos h1,if_pos h2,if_neg (by simpa using h3),if_neg (by simpa using h4)];exact norm_is h5
theorem holds_ok {x:List Op8} {l r:List EdP} (hl:PDd.okEs l=true) (hr:PDd.okEs r=true) (hx:PDd.okXs x=true) (a b:List Rw.Vl × List Jp) (ha:∃ e ∈ l,a.1=e.f0) (hb:∃ e ∈ r,b.1=e.f0) (hj:(joinV a.1 b.1).2=0):∃ k,eval_Holds.f k x (joinV a.1 b.1).1=some (EvP.holdsV x (joinV a.1 b.1).1):=by
 obtain⟨⟨c,ec⟩,hc⟩:∃ z,joinV a.1 b.1=z:=⟨_,rfl⟩
 rw[hc] at hj ⊢;simp only at hj;subst hj;obtain⟨_,_,_,rfl⟩:=joinV_ok hc;obtain⟨e,he,e1⟩:=ha;obtain⟨f,hf,f1⟩:=hb;refine (EvP.holds_E x _ ⟨(PDd.okX hl hx e he).x,fun v hv=>?_⟩).get
 rcases List.mem_append.1 hv with hv | hv
 ·exact (PDd.okX hl hx e he).row v (e1 ▸ hv)
 ·exact (PDd.okX hr hx f hf).row v (f1 ▸ hv)
theorem alone_any (A0 A1 A2:Option Addr) (c0 c1 c2:Nat) (l r:List EdP) (x:List Op8) (w:World) (hr0:Kd.C kE w A0 l.length l) (hr1:Kd.C kE w A1 r.length r) (hr2:Kd.C kO w A2 x.length x) (hc2:x.length<=c2) (hl:PDd.okEs l=true) (hr:PDd.okEs r=true) (hx:PDd.okXs x=true) :
  Calls Tryz.prog 44 #[.slice A0 l.length c0,.slice A1 r.length c1,.slice A2 x.length c2] w (Ans (aloneV (EvP.holdsV x) (EvP.formV x) l r) w):=by
 refine (Alone_calls (EvP.holdsV x) (EvP.formV x) A0 A1 A2 c0 c1 c2 l r x w hr0 (PDd.okEs_row hl) hr1 (PDd.okEs_row hr) hr2 hc2 (fun a b ha hb hj=>holds_ok hl hr hx a b (runs_mem l a ha).1 (runs_mem r b hb).1 hj) (EvP.form_E x).get).mono ?_;rintro e w' ⟨v,o,ho,rfl,hR,hb⟩;obtain rfl:=alone_is ho;obtain⟨A,c,rfl⟩:=Kd.R_slice hR;exact⟨A,c,rfl,(Kd.R_reads' hR).2.2,(Kd.R_reads' hR).2.1,hb⟩
def r1:EdP:=⟨[v1],4,1⟩
def r2:EdP:=⟨[v1],6,-1⟩
theorem may11:rowMay [v1,v1]=true:=by simp[rowMay,thOf,nilT,v1]
theorem jx2_w:holdsV jx2 [v1,v1]=(true,0):=by
 have e:jt2.fl=jx2:=rfl;have h:evalV jx2 [v1,v1]=(1,1,⟨#[]⟩,0):=by
  rw[<- e,evalV_T jt2 jt2_ok _ (by rw[e];exact jx2_form) may11];simp[T.ev,jt2,evL,evB,v1,compareS,getTh,rd_T65,outV,thVal3,Except.map];simp only[thO_num]
  rfl
 unfold holdsV;rw[h]
 rfl
theorem join11:joinV [v1] [v1]=([v1,v1],0):=by
 unfold joinV;rw[show rowMay [v1]=true from rowMay1 1]
 rfl
theorem table2 (r:List Rw.Vl) (a b c d:Int) (hr:rowMay r=true) (hm:tabJ [⟨a,b⟩,⟨c,d⟩]=true):tableE [⟨r,a,b⟩,⟨r,c,d⟩]=true:=by
 unfold tableE eachP;rw[runs2];simp only[eachR,lastB,hr,hm]
 rfl
theorem part_of (f h:List Jp) (hb:bothV (· * ·) f [⟨4,1⟩,⟨6,-1⟩]=(h,0)) (hn:h ≠ []):partsR (holdsV jx2) ([v1],f) [] [([v1],[⟨4,1⟩,⟨6,-1⟩])]=([⟨4,1⟩,⟨6,-1⟩],0):=by
 have ep:partnerV (holdsV jx2) ([v1],f) ([v1],[⟨4,1⟩,⟨6,-1⟩])=(true,0):=by
  unfold partnerV;simp only[hb,join11];rw[if_neg zq34,if_neg hn,if_neg zq34];exact jx2_w
 have ea:askV (holdsV jx2) ([v1],f) [] ([v1],[⟨4,1⟩,⟨6,-1⟩])=([⟨4,1⟩,⟨6,-1⟩],0):=by
  unfold askV;rw[ep,if_pos ⟨rfl,rfl⟩]
  rfl
 simp only[partsR,ea];rw[if_neg zq34]
theorem factA1:aloneV (holdsV jx2) (formV jx2) [e1,a2] [r1,r2]=([e1,⟨[v1],4,-1⟩,⟨[v1],6,1⟩,a2],0):=by
 have m1:mayE [e1,a2]=true:=may2 [v1] 2 1 9 (-1) (rowMay1 1) rfl;have m2:mayE [r1,r2]=true:=may2 [v1] 4 1 6 (-1) (rowMay1 1) rfl;have t1:tableE [e1,a2]=true:=table2 [v1] 2 1 9 (-1) (rowMay1 1) rfl;have t2:tableE [r1,r2]=true:=table2 [v1] 4 1 6 (-1) (rowMay1 1) rfl;have hp:partsR (holdsV jx2) ([v1],[⟨2,1⟩,⟨9,-1⟩]) [] [([v1],[⟨4,1⟩,⟨6,-1⟩])]=([⟨4,1⟩,⟨6,-1⟩],0):=part_of _ [⟨4,1⟩,⟨6,-1⟩] rfl zq34;have hw:bothV whereO [⟨2,1⟩,⟨9,-1⟩] [⟨4,1⟩,⟨6,-1⟩]=([⟨2,1⟩,⟨4,-1⟩,⟨6,1⟩,⟨9,-1⟩],0):=by rfl
 have hb:buildP [v1] [⟨2,1⟩,⟨4,-1⟩,⟨6,1⟩,⟨9,-1⟩]=[e1,⟨[v1],4,-1⟩,⟨[v1],6,1⟩,a2]:=by
  unfold buildP;rw[show rowMay [v1]=true from rowMay1 1]
  rfl
 have m3:mayE [e1,⟨[v1],4,-1⟩,⟨[v1],6,1⟩,a2]=true:=by
  unfold mayE eachP;rw[show runsP [e1,⟨[v1],4,-1⟩,⟨[v1],6,1⟩,a2]=[([v1],[⟨2,1⟩,⟨4,-1⟩,⟨6,1⟩,⟨9,-1⟩])] by simp[runsP,runAt,eqR_refl,jmpE,e1,a2]];simp only[eachR,lastB,show rowMay [v1]=true from rowMay1 1]
  rfl
 have ha:alR (holdsV jx2) [([v1],[⟨4,1⟩,⟨6,-1⟩])] [] [([v1],[⟨2,1⟩,⟨9,-1⟩])]=([e1,⟨[v1],4,-1⟩,⟨[v1],6,1⟩,a2],0):=by
  simp only[alR,hp,hw,hb,List.nil_append];rw[if_neg zq34,if_neg zq34]
 unfold aloneV;rw[m1,m2,t1,t2,if_pos (by rfl),if_pos (by rfl),jx2_form,if_neg zq34,show runsP [e1,a2]=[([v1],[⟨2,1⟩,⟨9,-1⟩])] from runs2 _ _ _ _ _,show runsP [r1,r2]=[([v1],[⟨4,1⟩,⟨6,-1⟩])] from runs2 _ _ _ _ _,ha,if_neg zq30];exact ((mayE_iff _).1 m3).norm
theorem factA2:partsR (holdsV jx2) ([v1],[⟨0,1⟩]) [] (runsP [r1,r2])=([⟨4,1⟩,⟨6,-1⟩],0):=by
 rw[show runsP [r1,r2]=[([v1],[⟨4,1⟩,⟨6,-1⟩])] from runs2 _ _ _ _ _];exact part_of [⟨0,1⟩] [⟨4,1⟩,⟨6,-1⟩] rfl zq34
theorem R_lit0 {α:Type} {d:Kd α} {W:World} {B:Nat} {t:TypeId} {cs:Array Value} {ps:List α} {inner:List Value} (hb:W.heap[B]? = some (.cells cs t (0,0))) (hi:cs.toList=inner) (hn:ps.length<=100)
  (hr:Reps (d.M W 0 (fun k=>(fun _=>True) k/\some k ≠ (Value.slice (some ⟨B,0,none⟩) ps.length ps.length).ownBlock)) d.sz ps inner):d.R t W 0 (fun _=>True) (.slice (some ⟨B,0,none⟩) ps.length ps.length) ps :=
 ⟨fun _ _=>trivial,inner,⟨hr.1,.inr ⟨B,ps.length,cs,rfl,Nat.zero_le _,hb,Nat.le_refl _,by unfold maxLen;omega,by rw[<- Array.length_toList,hi,hr.1],by rw[hi,List.take_of_length_le (by rw[hr.1];exact Nat.le_refl _)]⟩⟩,hr⟩
theorem partnersA2:partnersV (holdsV jx2) 0 ([v1],[⟨0,1⟩]) [r1,r2]=partsR (holdsV jx2) ([v1],[⟨0,1⟩]) [] (runsP [r1,r2]):=by
 have h1:(rowMay [v1] && mayJ [(⟨0,1⟩:Jp)] && mayE [r1,r2])=true:=by
  rw[show rowMay [v1]=true from rowMay1 1,show mayE [r1,r2]=true from may2 [v1] 4 1 6 (-1) (rowMay1 1) rfl];rfl
 unfold partnersV;rw[if_pos h1,if_pos (show tableE [r1,r2]=true from table2 [v1] 4 1 6 (-1) (rowMay1 1) rfl),if_neg zq30]
theorem liveA_calls (w:World):Calls Tryz.prog 40 #[] w fun e w'=>e = .returned (.bool true)/\Below w.heap.size w w':=by
 go_enter Tryz.func40,Tryz.ntmps40
 go_wp2_with (go_at_call 44;refine hold_intro ?_)
 refine⟨?_⟩;obtain⟨W1,hW1⟩:∃ W1,(((w.alloc (.cells #[.int .i64 1,.int .i64 1,.string ⟨#[]⟩] 65 (0,0))).alloc (.cells #[.slice (some ⟨w.heap.size,0,none⟩) 1 1,.int .i64 2,.int .i64 1,.slice (some ⟨w.heap.size,0,none⟩) 1 1,.int .i64 9,.int .i64 (-1)] 41 (0,0))).alloc (.cells #[.slice (some ⟨w.heap.size,0,none⟩) 1 1,.int .i64 4,.int .i64 1,.slice (some ⟨w.heap.size,0,none⟩) 1 1,.int .i64 6,.int .i64 (-1)] 41 (0,0))).alloc (.cells #[.int .i64 3,.int .i64 0,.string ⟨#[]⟩,.int .i64 3,.int .i64 1,.string ⟨#[]⟩,.int .i64 13,.int .i64 0,.string ⟨#[]⟩] 68 (0,0))=W1:=⟨_,rfl⟩
 have hsW1:W1.heap.size=w.heap.size+4:=by rw[<- hW1];simp
 have hbW1:Below w.heap.size w W1:=by rw[<- hW1];exact below_alloc (below_alloc (below_alloc (below_alloc (Below.refl _ w) _) _) _) _
 have k0:W1.heap[w.heap.size]? = some (.cells #[.int .i64 1,.int .i64 1,.string ⟨#[]⟩] 65 (0,0)):=by
  have h1:=blk_new (w) (.cells #[.int .i64 1,.int .i64 1,.string ⟨#[]⟩] 65 (0,0));rw[<- hW1];exact blk_alloc (blk_alloc (blk_alloc (h1) _) _) _
 have k2:W1.heap[w.heap.size+1]? = some (.cells #[.slice (some ⟨w.heap.size,0,none⟩) 1 1,.int .i64 2,.int .i64 1,.slice (some ⟨w.heap.size,0,none⟩) 1 1,.int .i64 9,.int .i64 (-1)] 41 (0,0)):=by
  have h1:=blk_new (w.alloc (.cells #[.int .i64 1,.int .i64 1,.string ⟨#[]⟩] 65 (0,0))) (.cells #[.slice (some ⟨w.heap.size,0,none⟩) 1 1,.int .i64 2,.int .i64 1,.slice (some ⟨w.heap.size,0,none⟩) 1 1,.int .i64 9,.int .i64 (-1)] 41 (0,0));rw[World.size_alloc] at h1;rw[<- hW1];exact blk_alloc (blk_alloc (h1) _) _
 have k5:W1.heap[w.heap.size+1+1]? = some (.cells #[.slice (some ⟨w.heap.size,0,none⟩) 1 1,.int .i64 4,.int .i64 1,.slice (some ⟨w.heap.size,0,none⟩) 1 1,.int .i64 6,.int .i64 (-1)] 41 (0,0)):=by
  have h1:=blk_new ((w.alloc (.cells #[.int .i64 1,.int .i64 1,.string ⟨#[]⟩] 65 (0,0))).alloc (.cells #[.slice (some ⟨w.heap.size,0,none⟩) 1 1,.int .i64 2,.int .i64 1,.slice (some ⟨w.heap.size,0,none⟩) 1 1,.int .i64 9,.int .i64 (-1)] 41 (0,0))) (.cells #[.slice (some ⟨w.heap.size,0,none⟩) 1 1,.int .i64 4,.int .i64 1,.slice (some ⟨w.heap.size,0,none⟩) 1 1,.int .i64 6,.int .i64 (-1)] 41 (0,0));rw[World.size_alloc,World.size_alloc] at h1;rw[<- hW1];exact blk_alloc (h1) _
 have k6:W1.heap[w.heap.size+1+1+1]? = some (.cells #[.int .i64 3,.int .i64 0,.string ⟨#[]⟩,.int .i64 3,.int .i64 1,.string ⟨#[]⟩,.int .i64 13,.int .i64 0,.string ⟨#[]⟩] 68 (0,0)):=by
  have h1:=blk_new (((w.alloc (.cells #[.int .i64 1,.int .i64 1,.string ⟨#[]⟩] 65 (0,0))).alloc (.cells #[.slice (some ⟨w.heap.size,0,none⟩) 1 1,.int .i64 2,.int .i64 1,.slice (some ⟨w.heap.size,0,none⟩) 1 1,.int .i64 9,.int .i64 (-1)] 41 (0,0))).alloc (.cells #[.slice (some ⟨w.heap.size,0,none⟩) 1 1,.int .i64 4,.int .i64 1,.slice (some ⟨w.heap.size,0,none⟩) 1 1,.int .i64 6,.int .i64 (-1)] 41 (0,0))) (.cells #[.int .i64 3,.int .i64 0,.string ⟨#[]⟩,.int .i64 3,.int .i64 1,.string ⟨#[]⟩,.int .i64 13,.int .i64 0,.string ⟨#[]⟩] 68 (0,0));rw[World.size_alloc,World.size_alloc,World.size_alloc] at h1;rw[<- hW1];exact h1
 rw[hW1];have r1':Kd.C kV W1 (some ⟨w.heap.size,0,none⟩) 1 [v1]:=C_lit (d:=kV) (ps:=[] ++ [v1]) (inner:=[] ++ [.int .i64 v1.f0,.int .i64 v1.f1,.string v1.f2]) rfl k0 rfl rfl zq34 (Reps.snoc (ps:=[]) (p:=v1) (Reps.none (kV.K W1) kV.sz) (k65_mk W1 v1) rfl);have hC:Kd.C kE W1 (some ⟨w.heap.size+1,0,none⟩) 2 [e1,a2] :=
  C_lit (d:=kE) (ps:=[] ++ [e1] ++ [a2]) (inner:=[] ++ [.slice (some ⟨w.heap.size,0,none⟩) 1 1,.int .i64 2,.int .i64 1] ++ [.slice (some ⟨w.heap.size,0,none⟩) 1 1,.int .i64 9,.int .i64 (-1)]) rfl k2 rfl rfl zq34
   (((Reps.none (kE.K W1) kE.sz).snoc (p:=e1) (k41_mk W1 e1 (Nat.le_refl 1) r1') rfl).snoc (p:=a2) (k41_mk W1 a2 (Nat.le_refl 1) r1') rfl)
 have hD:Kd.C kE W1 (some ⟨w.heap.size+1+1,0,none⟩) 2 [r1,r2] :=
  C_lit (d:=kE) (ps:=[] ++ [r1] ++ [r2]) (inner:=[] ++ [.slice (some ⟨w.heap.size,0,none⟩) 1 1,.int .i64 4,.int .i64 1] ++ [.slice (some ⟨w.heap.size,0,none⟩) 1 1,.int .i64 6,.int .i64 (-1)]) rfl k5 rfl rfl zq34
   (((Reps.none (kE.K W1) kE.sz).snoc (p:=r1) (k41_mk W1 r1 (Nat.le_refl 1) r1') rfl).snoc (p:=r2) (k41_mk W1 r2 (Nat.le_refl 1) r1') rfl)
 have hX:Kd.C kO W1 (some ⟨w.heap.size+1+1+1,0,none⟩) 3 jx2 :=
  C_lit (d:=kO) (ps:=[] ++ [(⟨3,0,⟨#[]⟩⟩:Op8)] ++ [⟨3,1,⟨#[]⟩⟩] ++ [⟨13,0,⟨#[]⟩⟩]) (inner:=[] ++ [.int .i64 3,.int .i64 0,.string ⟨#[]⟩] ++ [.int .i64 3,.int .i64 1,.string ⟨#[]⟩] ++ [.int .i64 13,.int .i64 0,.string ⟨#[]⟩]) rfl k6 rfl rfl zq34
   ((((Reps.none (kO.K W1) kO.sz).snoc (p:=⟨3,0,⟨#[]⟩⟩) (k68_mk W1 _) rfl).snoc (p:=⟨3,1,⟨#[]⟩⟩) (k68_mk W1 _) rfl).snoc (p:=⟨13,0,⟨#[]⟩⟩) (k68_mk W1 _) rfl)
 have HV1:=Hd k0;have HD:=Hd hD;have HXX:=Hd hX;have HB1:=Hd hbW1;have HLT:=Hd (show w.heap.size<W1.heap.size by omega);have FC:=Hd (alone_any (some ⟨w.heap.size+1,0,none⟩) (some ⟨w.heap.size+1+1,0,none⟩) (some ⟨w.heap.size+1+1+1,0,none⟩) 2 2 3 [e1,a2] [r1,r2] jx2 W1 hC hD hX (Nat.le_refl 3) (by rfl) (by rfl) (by rfl));rw[factA1] at FC;clear hC hD hX r1' k0 k2 k5 k6 hW1 hsW1 hbW1;refine FC.out.mono ?_;rintro e w2 ⟨Aa,ca,rfl,hRa,hca,hb2⟩;have HRA:=Hd hRa;have HB2:=Hd (HB1.out.trans (hb2.mono HB1.out.size));have HV2:=Hd ((hb2.block w.heap.size HLT.out).trans HV1.out);have HLT2:=Hd (Nat.lt_of_lt_of_le HLT.out hb2.size);have HD2:=Hd (Kd.C_below HD.out hb2);have HX2:=Hd (Kd.C_below HXX.out hb2);clear hRa hb2 hca HB1 HV1 HD HXX FC
 go_wp2_with (go_at_call 41;refine hold_intro ?_)
 refine⟨?_⟩;obtain⟨W3,hW3⟩:∃ W3,w2.alloc (.cells #[.int .i64 0,.int .i64 1] 85 (0,0))=W3:=⟨_,rfl⟩
 have hsW3:W3.heap.size=w2.heap.size+1:=by rw[<- hW3];simp
 have hbW3:Below w2.heap.size w2 W3:=by rw[<- hW3];exact below_alloc (Below.refl _ w2) _
 have k0:W3.heap[w2.heap.size]? = some (.cells #[.int .i64 0,.int .i64 1] 85 (0,0)):=by
  have h1:=blk_new (w2) (.cells #[.int .i64 0,.int .i64 1] 85 (0,0));rw[<- hW3];exact h1
 rw[hW3];have hRV:Kd.R kV tV W3 0 (fun _=>True) (.slice (some ⟨w.heap.size,0,none⟩) [v1].length 1) [v1]:=R_lit0 (d:=kV) (inner:=[] ++ [.int .i64 v1.f0,.int .i64 v1.f1,.string v1.f2]) ((hbW3.block w.heap.size HLT2.out).trans HV2.out) rfl zq34 ((Reps.none _ kV.sz).snoc (p:=v1) (k65_mkM _ _ _ v1) rfl);have hRJ:Kd.R kJ tJ W3 0 (fun _=>True) (.slice (some ⟨w2.heap.size,0,none⟩) [(⟨0,1⟩:Jp)].length 1) [⟨0,1⟩]:=R_lit0 (d:=kJ) (inner:=[] ++ [.int .i64 0,.int .i64 1]) k0 rfl zq34 ((Reps.none _ kJ.sz).snoc (p:=(⟨0,1⟩:Jp)) (k85_mkM _ _ _ (⟨0,1⟩:Jp)) rfl);have HB3:=Hd hbW3;have PC:=Hd (Partners_calls (holdsV jx2) 0 ([v1],[⟨0,1⟩]) (some ⟨w.heap.size,0,none⟩) (some ⟨w2.heap.size,0,none⟩) (some ⟨w.heap.size+1+1,0,none⟩) (some ⟨w.heap.size+1+1+1,0,none⟩) 1 1 2 3 [r1,r2] jx2 W3 ⟨(Kd.R_reads' hRV).2.2,(Kd.R_reads' hRV).2.1⟩ ⟨(Kd.R_reads' hRJ).2.2,(Kd.R_reads' hRJ).2.1⟩ (Kd.C_below HD2.out hbW3) zq34 (Kd.C_below HX2.out hbW3) (Nat.le_refl 3) (fun y hy hj=>holds_ok (l:=[e1]) (r:=[r1,r2]) (by rfl) (by rfl) (by rfl) ([v1],[⟨0,1⟩]) y ⟨e1,by simp,rfl⟩ (runs_mem _ y hy).1 hj) (by have:=(EvP.form_E jx2).get;rw[jx2_form] at this;exact this));rw[partnersA2] at PC;rw[factA2] at PC;clear hRV hRJ k0 hW3 hsW3 hbW3 HD2 HX2 HV2;refine PC.out.mono ?_;rintro e w4 ⟨vp,rfl,hRp,hb4⟩;obtain⟨Ab,cb,rfl⟩:=Kd.R_slice hRp;have HB4:=Hd ((HB2.out.trans (HB3.out.mono HB2.out.size)).trans (hb4.mono (Nat.le_trans HB2.out.size HB3.out.size)));have hra:=Kd.C_below (Kd.C_below HRA.out HB3.out) hb4;obtain⟨ad,Ay,cy,ea,y0,y1,y2,y3,y4⟩:=at_T41 hra (1:Int) zq34 zq34;obtain⟨ad2,Az,cz,eb,z0,z1,z2,z3,z4⟩:=at_T41 hra (2:Int) zq34 zq34;cases ea;cases eb;have Y1:w4.cell? ⟨ad.block,ad.off+3+1,none⟩=some (.int .i64 4):=by simpa [Addr.add,rd_T41] using y1
 have Y2:w4.cell? ⟨ad.block,ad.off+3+2,none⟩=some (.int .i64 (-1)):=by simpa [Addr.add,rd_T41] using y2
 have Z1:w4.cell? ⟨ad.block,ad.off+6+1,none⟩=some (.int .i64 6):=by simpa [Addr.add,rd_T41] using z1
 clear y0 y1 y2 y3 y4 z0 z1 z2 z3 z4 hra HRA HB2 HB3 hb4 hRp PC;go_wp2;go_ret;exact⟨rfl,HB4.out⟩
end Go.Proofs.YtmkgecapkeojaaaGreat.Eg
end
section
namespace Go.Proofs.YtmkgecapkeojaaaGreat.Eg
open PDa
open RowKit YtmkgecapkeojaaaGreatW.PrintWords YtmkgecapkeojaaaGreatW.PrintLast YtmkgecapkeojaaaGreatW.PrintMore
open Stp Rw
def opW (k:Int):Int->Int->Int:=if k=1 then (· * ·) else if k=2 then whereO else (· + ·)
theorem opW_0 (k:Int) (h:k=0\/k=1\/k=2):opW k 0 0=0:=by
 rcases h with rfl | rfl | rfl <;> rfl
theorem opW_bd (k a b:Int) (h:k=0\/k=1\/k=2) (h1 : -1073741824<=a) (h2:a<=1073741824) (h3 : -1073741824<=b) (h4:b<=1073741824) : -2305843009213693952<=opW k a b/\opW k a b<=2305843009213693952:=by
 rcases h with rfl | rfl | rfl
 ·show -2305843009213693952<=a+b/\a+b<=2305843009213693952;omega
 ·have:=mul_bd a b h1 h2 h3 h4
  show -2305843009213693952<=a*b/\a*b<=2305843009213693952;omega
 ·show -2305843009213693952<=whereO a b/\whereO a b<=2305843009213693952
  unfold whereO;split <;> omega
theorem htwo_calls (what:Int) (hw:what=0\/what=1\/what=2) (A0 A1:Option Addr) (c0 c1:Nat) (f g:List Jp) (w:World) (hr0:Kd.C kJp w A0 f.length f) (hc0:f.length<=c0) (hr1:Kd.C kJp w A1 g.length g) (hc1:g.length<=c1) :
  Calls Tryz.prog 67 #[.slice A0 f.length c0,.slice A1 g.length c1,.int .i64 what] w fun e w'=>∃ v,e = .returned (.tuple #[v,.int .i64 (bothV (opW what) f g).2])/\Kd.R kJp tJ w' w.heap.size (fun _=>True) v (bothV (opW what) f g).1/\Below w.heap.size w w':=by
 have huI:=Tryz.underlying53;obtain⟨kf,hkf⟩:=(may09 f).get;obtain⟨kg,hkg⟩:=(may09 g).get;have MF:=Hd (r09_May.calls kf A0 c0 f _ w hr0 hc0 hkf);have MG:=Hd (fun (W:World) (h:Below w.heap.size w W)=>r09_May.calls kg A1 c1 g _ W (Kd.C_below hr1 h) hc1 hkg);have PC:=Hd (fun (hf:mayJ f=true) (hg:mayJ g=true) (W:World) (h:Below w.heap.size w W)=>show Calls Tryz.prog 110 #[.slice A0 f.length c0,.slice A1 g.length c1] W fun e w'=>∃ A c,e = .returned (.slice A (placesI (f ++ g)).length c)/\(placesI (f ++ g)).length<=c/\Kd.C kI w' A (placesI (f ++ g)).length (placesI (f ++ g))/\Below W.heap.size W w' by
  have pf:=mayJ_parts hf;have pg:=mayJ_parts hg;have e:=places_all (f ++ g) (fun j hj=>by
   rcases List.mem_append.1 hj with hj | hj
   ·exact (pf.2.1 j hj).2.1
   ·exact (pg.2.1 j hj).2.1) []
  rw[List.foldl_append] at e;have h2:=hplaces_calls A0 A1 c0 c1 f g W (Kd.C_below hr0 h) (Kd.C_below hr1 h) zq4 zq4;rw[show foldW g (foldW f [])=placesI (f ++ g) from e] at h2;exact h2)
 have VF:=Hd (fun (hf:mayJ f=true) (t:Int) (W:World) (h:Below w.heap.size w W)=>(value09 f t (fun x hx=>okFair ((mayJ_parts hf).2.1 x hx).2.2.2) (by have:=(mayJ_parts hf).1;omega)).get.elim fun k hk=>r09_Value.calls k A0 c0 f t (valI f t) W (Kd.C_below hr0 h) hc0 hk);have VG:=Hd (fun (hg:mayJ g=true) (t:Int) (W:World) (h:Below w.heap.size w W)=>(value09 g t (fun x hx=>okFair ((mayJ_parts hg).2.1 x hx).2.2.2) (by have:=(mayJ_parts hg).1;omega)).get.elim fun k hk=>r09_Value.calls k A1 c1 g t (valI g t) W (Kd.C_below hr1 h) hc1 hk);clear hkf hkg hr0 hr1 hc0 hc1;obtain⟨op,hop⟩:∃ z,opW what=z:=⟨_,rfl⟩
 rw[hop];have HOP:=Hd hop;have HW:=Hd hw;obtain⟨mf,hmf⟩:∃ z,mayJ f=z:=⟨_,rfl⟩
 obtain⟨mg,hmg⟩:∃ z,mayJ g=z:=⟨_,rfl⟩
 rw[hmf] at MF;rw[hmg] at MG;have HMF:=Hd hmf;have HMG:=Hd hmg;clear hop hw hmf hmg;go_enter Tryz.func67,Tryz.ntmps67
 go_wp2_with (go_at_call 79;refine hold3 ?_)
 refine⟨?_⟩;refine MF.out.mono ?_;rintro e w1 ⟨rfl,hd1⟩;have HB1:=Hd (show Below w.heap.size w w1 from hd1.below);clear hd1 MF;cases mf with
 | false =>
  have HV:=Hd (show bothV op f g=([],2) by unfold bothV;rw[HMF.out];rfl);go_wp2;go_ret2;rw[HV.out];exact⟨_,rfl,Kd.R_nil _ _ _ _ _,HB1.out⟩
 | true =>
  go_wp2_with (go_at_call 79;refine hold3 ?_)
  refine⟨?_⟩;refine (MG.out w1 HB1.out).mono ?_;rintro e w2 ⟨rfl,hd2⟩;have HB2:=Hd (HB1.out.trans (hd2.below.mono HB1.out.size));clear hd2 MG HB1;cases mg with
  | false =>
   have HV:=Hd (show bothV op f g=([],2) by unfold bothV;rw[HMF.out,HMG.out];rfl);go_wp2;go_ret2;rw[HV.out];exact⟨_,rfl,Kd.R_nil _ _ _ _ _,HB2.out⟩
  | true =>
   obtain⟨ps,hps⟩:∃ z,placesI (f ++ g)=z:=⟨_,rfl⟩
   have P3:=Hd (PC.out HMF.out HMG.out w2 HB2.out);have HV:=Hd (show bothV op f g=toldJ (toldI ps (ps.map fun p=>op (valI f p) (valI g p)) 0) by
    unfold bothV;rw[HMF.out,HMG.out, <- hps, <- HOP.out,two_is (opW what) (opW_0 what HW.out) f g HMF.out HMG.out];rfl)
   have HPL:=Hd (show ps.length<=2048 by
    have h:=(foldW_inc (f ++ g) [] List.Pairwise.nil).2;have e:foldW (f ++ g) []=placesI (f ++ g):=places_all (f ++ g) (fun j hj=>by
     rcases List.mem_append.1 hj with hj | hj
     ·exact ((mayJ_parts HMF.out).2.1 j hj).2.1
     ·exact ((mayJ_parts HMG.out).2.1 j hj).2.1) []
    rw[e,hps,List.length_append] at h;have h1:=(mayJ_parts HMF.out).1;have h2:=(mayJ_parts HMG.out).1;simp only[List.length_nil] at h;omega)
   have HBD:=Hd (show ∀ t,(-1073741824<=valI f t/\valI f t<=1073741824)/\(-1073741824<=valI g t/\valI g t<=1073741824) from fun t=>by
    have h1:=valI_bound t f (fun x hx=>okFair ((mayJ_parts HMF.out).2.1 x hx).2.2.2);have h2:=valI_bound t g (fun x hx=>okFair ((mayJ_parts HMG.out).2.1 x hx).2.2.2);have h3:=(mayJ_parts HMF.out).1;have h4:=(mayJ_parts HMG.out).1;omega)
   rw[hps] at P3;clear PC hps
   go_wp2_with (go_at_call 110;refine hold3 ?_)
   refine⟨?_⟩;refine P3.out.mono ?_;rintro e w3 ⟨Ap,cp,rfl,hle,hCp,hb3⟩;have HP:=Hd (And.intro trivial (And.intro hle hCp));have HB3:=Hd (HB2.out.trans (hb3.mono HB2.out.size));clear hle hCp hb3 P3
   go_wp2_with (((with_reducible refine gate_dst (N:=25) rfl ?_);refine Kd.R_lit kI _ tI ?hg (N:=25) ?hd (xs:=([]:List Int)) (inner:=[]) (ok:=fun _=>True) (okp:=fun _=>True) ?hr ?hp (fun _ hk=>hk) trivial (Below.refl _ _) (Nat.le_refl _) zq30 ?_;(case hd=>rfl);(case hg=>rfl);(case hr=>first | (go_simp;done) | (go_simp;rfl));(case hp=>exact (Reps.none _ _));intro v9 w4 ho4 hb4 hg_ hnew_;have HO4:=Hd ho4;have HB4:=Hd hb4;clear hg_ hnew_ hb4 ho4))
   go_loopw [9,10] (fun v9 v10 wr=>∃ (i:Nat) (A9:Option Addr) (c9:Nat),i<=ps.length/\v10 = .int .i64 (i:Int)/\v9 = .slice A9 i c9/\Aside0 (Kd.R kI tI wr w3.heap.size (fun _=>True) (.slice A9 i c9) ((ps.take i).map fun p=>op (valI f p) (valI g p)))/\Aside0 (Below w3.heap.size w3 wr)) (fun v9 v10 wr=>ps.length - (intOf v10).toNat)
   case atStart =>
    obtain⟨A9,c9,rfl⟩:=Kd.R_slice HO4.out;exact⟨0,A9,c9,Nat.zero_le _,rfl,rfl,⟨HO4.out⟩,⟨HB4.out⟩⟩
   case round =>
    clear HO4 HB4;obtain⟨i,A9,c9,hi,rfl,rfl,HO,HB⟩:=hrel;have HBW:=Hd (HB3.out.trans (HB.out.mono HB3.out.size))
    by_cases c:i<ps.length
    ·obtain⟨p,hp⟩:∃ p,ps[i]=p:=⟨_,rfl⟩
     obtain⟨ad,e1,x0⟩:=Kd.at_int (Kd.C_below HP.out.2.2 HB.out) (i:Int) zq4 zq4;have hrd:rd ps (i:Int)=p:=by
      unfold rd;rw[Int.toNat_natCast,List.getD_eq_getElem?_getD,List.getElem?_eq_getElem c];exact hp
     rw[Int.toNat_natCast,hrd] at x0;cases e1;have C1:=Hd (VF.out HMF.out p wr HBW.out);have C2:=Hd (fun (W:World) (h:Below wr.heap.size wr W)=>VG.out HMG.out p W (HBW.out.trans (h.mono HBW.out.size)));have HX0:=Hd x0;have HT:=Hd (show (ps.take (i+1)).map (fun p=>op (valI f p) (valI g p))=(ps.take i).map (fun p=>op (valI f p) (valI g p)) ++ [op (valI f p) (valI g p)] by
      rw[List.take_add_one,List.getElem?_eq_getElem c,hp];simp)
     have hb:=HBD.out p;obtain⟨a,ha⟩:∃ z,valI f p=z:=⟨_,rfl⟩
     obtain⟨b,hb'⟩:∃ z,valI g p=z:=⟨_,rfl⟩
     rw[ha] at C1 HT hb;rw[hb'] at C2 HT hb;obtain⟨⟨ha1,ha2⟩,hb1,hb2⟩:=hb;have HWA:=Hd (show wrap64 (a+b)=a+b from wrapS _ (Int.le_trans zq34 (Int.add_le_add ha1 hb1)) (Int.le_trans (Int.add_le_add ha2 hb2) zq34));have hmb:=mul_bd a b ha1 ha2 hb1 hb2;have HWM:=Hd (show wrap64 (a*b)=a*b from wrapS _ (Int.le_trans zq34 hmb.1) (Int.le_trans hmb.2 zq34));clear hmb ha1 ha2 hb1 hb2;have HLI:=Hd (show i<=2048 by have:=HPL.out;omega);have hwr:=wrapN i (by have:=HPL.out;omega);have pI:(0<=(i:Int))=True:=eq_true zq4;have qI:((i:Int)<(ps.length:Int))=True:=eq_true zq4;clear hrd hp ha hb'
     go_wp2_with (go_at_call 25;refine hold3 ?_)
     refine⟨?_⟩;refine C1.out.mono ?_;rintro e w5 ⟨rfl,hd5⟩;have HB5:=Hd (show Below wr.heap.size wr w5 from hd5.below);have x5:=pw_cell_below HB5.out HX0.out;clear hd5 C1 x0
     go_wp2_with (go_at_call 25;refine hold3 ?_)
     refine⟨?_⟩;refine (C2.out w5 HB5.out).mono ?_;rintro e w6 ⟨rfl,hd6⟩;have HB6:=Hd (HB5.out.trans (hd6.below.mono HB5.out.size));clear hd6 C2 x5 HX0 HB5;have HO6:=Hd (Kd.R_below HO.out HB6.out);have HB36:=Hd (HB.out.trans (HB6.out.mono HB.out.size));clear HO HB6 HB HBW HBD
     rcases HW.out with hwh | hwh | hwh
     ·subst hwh
      have hv:=HWA.out;have HS:=Hd (show op a b=a+b by rw[<- HOP.out];rfl);rw[HS.out] at HT
      go_wp2_with (((with_reducible refine gate_dst (N:=60) rfl ?_);at_builtin;refine Kd.R_append kI (w0:=w3) w3.heap.size rfl (.tmp 57) (.tmp 59) 53 tI (.int .i64 0) 8 rfl huI info3 rfl zq34 zq4 (.slice A9 i c9) _ (a+b) [.int .i64 (a+b)] (fun _=>True) (fun _=>False) rfl rfl ?aP (fun _ h=>h.elim) (fun _ _=>trivial) HO6.out HB36.out HB36.out.size ?aL ?_;(case aP=>rfl);(case aL=>have:=HLI.out;rw[List.length_map,List.length_take];omega);intro vA w7 ho hb hg_ hnew_;have HO7:=Hd ho;have HB7:=Hd hb;clear ho hb hg_ hnew_))
      rw[<- HT.out] at HO7;obtain⟨A8,c8,hv8⟩:=Kd.R_slice HO7.out;rw[List.length_map,List.length_take,Nat.min_eq_left c] at hv8;subst hv8;go_roundw
      case rel=>exact⟨i+1,A8,c8,c,(by first | rw[hwr] | go_num),rfl,⟨HO7.out⟩,⟨HB7.out⟩⟩
      case measure=>first | (rw[hwr];simp[intOf];omega) | (simp[intOf];omega)
     ·subst hwh
      have hv:=HWM.out;have hva:=HWA.out;have HS:=Hd (show op a b=a*b by rw[<- HOP.out];rfl);rw[HS.out] at HT
      go_wp2_with (((with_reducible refine gate_dst (N:=60) rfl ?_);at_builtin;refine Kd.R_append kI (w0:=w3) w3.heap.size rfl (.tmp 57) (.tmp 59) 53 tI (.int .i64 0) 8 rfl huI info3 rfl zq34 zq4 (.slice A9 i c9) _ (a*b) [.int .i64 (a*b)] (fun _=>True) (fun _=>False) rfl rfl ?aP (fun _ h=>h.elim) (fun _ _=>trivial) HO6.out HB36.out HB36.out.size ?aL ?_;(case aP=>rfl);(case aL=>have:=HLI.out;rw[List.length_map,List.length_take];omega);intro vA w7 ho hb hg_ hnew_;have HO7:=Hd ho;have HB7:=Hd hb;clear ho hb hg_ hnew_))
      rw[<- HT.out] at HO7;obtain⟨A8,c8,hv8⟩:=Kd.R_slice HO7.out;rw[List.length_map,List.length_take,Nat.min_eq_left c] at hv8;subst hv8;go_roundw
      case rel=>exact⟨i+1,A8,c8,c,(by first | rw[hwr] | go_num),rfl,⟨HO7.out⟩,⟨HB7.out⟩⟩
      case measure=>first | (rw[hwr];simp[intOf];omega) | (simp[intOf];omega)
     ·subst hwh
      have hva:=HWA.out
      by_cases hb0:b=0
      ·subst hb0
       have HS:=Hd (show op a 0=a by rw[<- HOP.out];rfl);rw[HS.out] at HT
       go_wp2_with (((with_reducible refine gate_dst (N:=60) rfl ?_);at_builtin;refine Kd.R_append kI (w0:=w3) w3.heap.size rfl (.tmp 57) (.tmp 59) 53 tI (.int .i64 0) 8 rfl huI info3 rfl zq34 zq4 (.slice A9 i c9) _ a [.int .i64 a] (fun _=>True) (fun _=>False) rfl rfl ?aP (fun _ h=>h.elim) (fun _ _=>trivial) HO6.out HB36.out HB36.out.size ?aL ?_;(case aP=>rfl);(case aL=>have:=HLI.out;rw[List.length_map,List.length_take];omega);intro vA w7 ho hb hg_ hnew_;have HO7:=Hd ho;have HB7:=Hd hb;clear ho hb hg_ hnew_))
       rw[<- HT.out] at HO7;obtain⟨A8,c8,hv8⟩:=Kd.R_slice HO7.out;rw[List.length_map,List.length_take,Nat.min_eq_left c] at hv8;subst hv8;go_roundw
       case rel=>exact⟨i+1,A8,c8,c,(by first | rw[hwr] | go_num),rfl,⟨HO7.out⟩,⟨HB7.out⟩⟩
       case measure=>first | (rw[hwr];simp[intOf];omega) | (simp[intOf];omega)
      ·have hbb:(b != 0)=true:=bne_iff_ne.mpr hb0
       have HS:=Hd (show op a b=0 by rw[<- HOP.out];show whereO a b=0;unfold whereO;rw[if_pos hb0]);clear hb0;rw[HS.out] at HT
       go_wp2_with (((with_reducible refine gate_dst (N:=60) rfl ?_);at_builtin;refine Kd.R_append kI (w0:=w3) w3.heap.size rfl (.tmp 57) (.tmp 59) 53 tI (.int .i64 0) 8 rfl huI info3 rfl zq34 zq4 (.slice A9 i c9) _ 0 [.int .i64 0] (fun _=>True) (fun _=>False) rfl rfl ?aP (fun _ h=>h.elim) (fun _ _=>trivial) HO6.out HB36.out HB36.out.size ?aL ?_;(case aP=>rfl);(case aL=>have:=HLI.out;rw[List.length_map,List.length_take];omega);intro vA w7 ho hb hg_ hnew_;have HO7:=Hd ho;have HB7:=Hd hb;clear ho hb hg_ hnew_))
       rw[<- HT.out] at HO7;obtain⟨A8,c8,hv8⟩:=Kd.R_slice HO7.out;rw[List.length_map,List.length_take,Nat.min_eq_left c] at hv8;subst hv8;go_roundw
       case rel=>exact⟨i+1,A8,c8,c,(by first | rw[hwr] | go_num),rfl,⟨HO7.out⟩,⟨HB7.out⟩⟩
       case measure=>first | (rw[hwr];simp[intOf];omega) | (simp[intOf];omega)
    ·obtain rfl:i=ps.length:=by omega
     obtain⟨vl,hvl⟩:∃ z,ps.map (fun p=>op (valI f p) (valI g p))=z:=⟨_,rfl⟩
     have hvn:vl.length=ps.length:=by rw[<- hvl,List.length_map]
     rw[List.take_length,hvl] at HO;rw[hvl] at HV;obtain⟨kt,hkt⟩:=(told09' ps vl (by have:=HPL.out;omega) hvn (fun v hv=>by
      rw[<- hvl] at hv;obtain⟨p,_,rfl⟩:=List.mem_map.1 hv;have h:=HBD.out p;rw[<- HOP.out];exact opW_bd what _ _ HW.out h.1.1 h.1.2 h.2.1 h.2.2)).get
     have hC:=(Kd.R_reads' HO.out).2.2;rw[hvn] at hC;have TC:=Hd (r09_Told.calls kt Ap cp ps A9 c9 vl (toldJ (toldI ps vl 0)).1 (toldJ (toldI ps vl 0)).2 wr (Kd.C_below HP.out.2.2 HB.out) HP.out.2.1 (by rw[hvn];exact hC) (by rw[hvn];exact (Kd.R_reads' HO.out).2.1) (by rw[hkt]));rw[hvn, <- HV.out] at TC;clear hkt hC hvl hvn HBD
     go_wp2_with (go_at_call 111;refine hold3 ?_)
     refine⟨?_⟩;refine TC.out.mono ?_;rintro e w5 ⟨v5,rfl,hR5,hb5⟩;have HR5:=Hd (Kd.R_lower hR5 HBW.out.size);have HB5:=Hd (HBW.out.trans (hb5.mono HBW.out.size));clear hR5 hb5 TC;go_wp2;go_ret2;exact⟨v5,rfl,HR5.out,HB5.out⟩
end Go.Proofs.YtmkgecapkeojaaaGreat.Eg
end
section
namespace Go.Proofs.YtmkgecapkeojaaaGreat.Eg
open PDa
open RowKit YtmkgecapkeojaaaGreatW.PrintWords Stp Rw Cmp Canon
theorem join06 (a b:List Vl):EvP.U (fun k=>r06_Join.f k a b) (joinV a b):=by
 unfold r06_Join.f joinV;refine EvP.U.bind (EvP.mayR a) ?_;cases ha:rowMay a with
 | false =>
  refine EvP.U.neg (by decide) (EvP.U.succ ?_);simp only[r06_Join.j0];exact EvP.U.pos (by first | rfl | trivial) (EvP.U.const (by rw[if_neg (by simp)]))
 | true =>
  refine EvP.U.pos (by first | rfl | trivial) (EvP.U.bind (EvP.mayR b) ?_);have la:=rowMay_len ha;cases hb:rowMay b with
  | false =>
   refine EvP.U.succ ?_;simp only[r06_Join.j0];exact EvP.U.pos (by first | rfl | trivial) (EvP.U.const (by rw[if_neg (by simp)]))
  | true =>
   have lb:=rowMay_len hb;refine EvP.U.succ ?_;simp only[r06_Join.j0];refine EvP.U.neg (by decide) ?_;have hw:wrap64 ((a.length:Int)+(b.length:Int))=(a.length:Int)+(b.length:Int):=by rw[show (a.length:Int)+(b.length:Int)=((a.length+b.length:Nat):Int) by omega];exact EvP.w64 (by omega) (by omega)
   rw[hw]
   by_cases h8:8<a.length+b.length
   ·exact EvP.U.pos (by omega) (EvP.U.const (by rw[if_pos (by rfl),if_pos h8]))
   ·refine EvP.U.neg (by omega) (EvP.U.const ?_)
    rw[if_pos (by rfl),if_neg h8];simp;omega
end Go.Proofs.YtmkgecapkeojaaaGreat.Eg
end
section
namespace Go.Proofs.YtmkgecapkeojaaaGreat.Eg
open PDa
open RowKit YtmkgecapkeojaaaGreatW.PrintWords YtmkgecapkeojaaaGreatW.PrintLast YtmkgecapkeojaaaGreatW.PrintMore
open Stp Rw
theorem both_len (op:Int->Int->Int):∀ (k:Nat) (f g:List Jp) (a b was:Int),(bothL op k f g a b was).length<=k
 | 0,f,g,a,b,was=>by rw[bothL];exact Nat.le_refl _
 | k+1,f,g,a,b,was=>by
  rw[bothL]
  split
  ·exact Nat.zero_le _
  ·have:=both_len op k (popL f (mAt f g)) (popL g (mAt f g)) (a+popA f (mAt f g)) (b+popA g (mAt f g)) (op (a+popA f (mAt f g)) (b+popA g (mAt f g)))
   rw[List.length_append];have h2:(stJ (mAt f g) (op (a+popA f (mAt f g)) (b+popA g (mAt f g))) was).length<=1:=by unfold stJ;split <;> simp
   omega
theorem bothV_len (op:Int->Int->Int) (f g:List Jp):(bothV op f g).1.length<=f.length+g.length:=by
 unfold bothV toldJ
 repeat' split
 all_goals first | exact both_len _ _ _ _ _ _ _ | exact Nat.zero_le _
theorem may_groups {l:List EdP} (h:mayE l=true):runsP l=groups l:=runs_groups l (isC_rows ((mayE_iff l).1 h).can)
abbrev ROk (w wr:World) (A:Option Addr) (c:Nat) (L:List (List Vl)) (own:Option Nat):Prop :=
 (kH w).R tR wr 0 (fun k=>some k=(Value.slice A L.length c).ownBlock) (.slice A L.length c) L /\ ∀ k,(Value.slice A L.length c).ownBlock=some k->some k ≠ own
theorem ROk.below {w wr wq:World} {A:Option Addr} {c:Nat} {L:List (List Vl)} {own:Option Nat} (h:ROk w wr A c L own) (hb:Below wr.heap.size wr wq):ROk w wq A c L own:=⟨Kd.R_below h.1 hb,h.2⟩
theorem ROk.grown {w wr wq:World} {A:Option Addr} {c:Nat} {L:List (List Vl)} {v v1:Value} (h:ROk w wr A c L v.ownBlock) (hg:wr.grownBy wq v.ownBlock) (hat:v1.ownBlock=v.ownBlock \/ ∃ b,v1.ownBlock=some b/\wr.heap.size<=b):ROk w wq A c L v1.ownBlock :=
 ⟨Kd.R_grown h.1 hg (fun k hk=>fun e=>h.2 k hk.symm e),fun k hk e=>by
  rcases hat with h' | ⟨b,h',hle⟩
  ·exact h.2 k hk (e.trans h')
  ·rw[h'] at e
   injection e with e
   have:=Kd.R_lt h.1 k hk;omega⟩
theorem putP_nil (out:List EdP) (r:List Vl) (f:List Jp):putP out r f=out ++ putP [] r f:=by simp[putP]
theorem pre_at:∀ (f:List Jp) (v:Int),f.Pairwise (fun x y=>x.f0<y.f0)->(∀ j ∈ f,0<=v+valI f j.f0)->Pre v f
 | [],_,_,_=>trivial
 | j :: js,v,hp,h=>by
  have h1:=List.pairwise_cons.1 hp;have h2:=h j List.mem_cons_self;rw[valI,if_pos (Int.le_refl _),valI_low h1.1] at h2;refine⟨by omega,pre_at js _ h1.2 fun y hy=>?_⟩;have h3:=h y (List.mem_cons_of_mem _ hy);have:=h1.1 y hy;rw[valI,if_pos zq4] at h3;omega
theorem nn_at {f:List Jp} (hf:mayJ f=true):(0<=valI f (-1) /\ ∀ j ∈ f,0<=valI f j.f0) ↔ ∀ t,0<=valI f t:=by
 have hp:=(mayJ_parts hf).2.2
 constructor
 ·rintro⟨_,h⟩ t
  have:=pre_val f 0 hp (Int.le_refl _) (pre_at f 0 hp fun j hj=>by have:=h j hj;omega) t;omega
 ·intro h;exact⟨h _,fun j _=>h _⟩
theorem hleast_calls (A0:Option Addr) (c0:Nat) (f:List Jp) (w:World) (hf:mayJ f=true) (hr0:Kd.C kJp w A0 f.length f) (hc0:f.length<=c0) :
  Calls Tryz.prog 122 #[.slice A0 f.length c0] w fun e w'=>∃ m:Int,e = .returned (.int .i64 m)/\(0<=m ↔ ∀ t,0<=valI f t)/\Below w.heap.size w w':=by
 obtain⟨km,hkm⟩:=(may09 f).get;rw[hf] at hkm;have MC:=Hd (r09_May.calls km A0 c0 f true w hr0 hc0 hkm);have VC:=Hd (fun (t:Int) (W:World) (h:Below w.heap.size w W)=>(value09 f t (fun x hx=>okFair ((mayJ_parts hf).2.1 x hx).2.2.2) (by have:=(mayJ_parts hf).1;omega)).get.elim fun k hk=>r09_Value.calls k A0 c0 f t (valI f t) W (Kd.C_below hr0 h) hc0 hk);have HR:=Hd hr0;have HL:=Hd (mayJ_parts hf).1;have HNN:=Hd (nn_at hf);clear hf hkm hr0 hc0;go_enter Tryz.func122,Tryz.ntmps122
 go_wp2_with (go_at_call 79;refine hold3 ?_)
 refine⟨?_⟩;refine MC.out.mono ?_;rintro e w1 ⟨rfl,hd1⟩;have HB1:=Hd (show Below w.heap.size w w1 from hd1.below);clear hd1 MC
 go_wp2_with (go_at_call 25;refine hold3 ?_)
 refine⟨?_⟩;refine (VC.out (-1) w1 HB1.out).mono ?_;rintro e w2 ⟨rfl,hd2⟩;have HB2:=Hd (HB1.out.trans (hd2.below.mono HB1.out.size));clear hd2 HB1;go_wp2
 go_loopw [3,4] (fun v3 v4 wr=>∃ (i:Nat) (m:Int),i<=f.length/\v4 = .int .i64 (i:Int)/\v3 = .int .i64 m/\Aside0 (0<=m ↔ 0<=valI f (-1) /\ ∀ j ∈ f.take i,0<=valI f j.f0)/\Aside0 (Below w.heap.size w wr)) (fun v3 v4 wr=>f.length - (intOf v4).toNat)
 case atStart=>exact⟨0,_,Nat.zero_le _,rfl,rfl,⟨by simp⟩,⟨HB2.out⟩⟩
 case round =>
  clear HB2;obtain⟨i,m,hi,rfl,rfl,HE,HB⟩:=hrel
  by_cases c:i<f.length
  ·obtain⟨Y,hY⟩:∃ Y,f[i]=Y:=⟨_,rfl⟩
   obtain⟨ad,e1,x0,x1⟩:=at_T85 (Kd.C_below HR.out HB.out) (i:Int) zq4 zq4;rw[Int.toNat_natCast,rdJ f i c,hY] at x0;cases e1;have HX0:=Hd x0;have C1:=Hd (VC.out Y.f0 wr HB.out);obtain⟨v,hv⟩:∃ z,valI f Y.f0=z:=⟨_,rfl⟩
   have HT:=Hd (show ∀ P:Jp->Prop,(∀ j ∈ f.take (i+1),P j) ↔ (∀ j ∈ f.take i,P j)/\P Y from fun P=>by
    rw[List.take_add_one,List.getElem?_eq_getElem c,hY]
    constructor
    ·intro h;exact⟨fun j hj=>h j (List.mem_append_left _ hj),h Y zq30⟩
    ·rintro⟨h1,h2⟩ j hj
     rcases List.mem_append.1 hj with hj | hj
     ·exact h1 j hj
     ·simp at hj;rw[hj];exact h2)
   rw[hv] at C1;have HLI:=Hd (show i<1024 by have:=HL.out;omega);have pI:(0<=(i:Int))=True:=eq_true zq4;have qI:((i:Int)<(f.length:Int))=True:=eq_true zq4;have HV:=Hd hv;have hwr:=wrapN i (by have:=HL.out;omega);clear x1 hY hv
   go_wp2_with (go_at_call 25;refine hold3 ?_)
   refine⟨?_⟩;refine C1.out.mono ?_;rintro e w3 ⟨rfl,hd3⟩;have hb3:=hd3.below;have HB3:=Hd (HB.out.trans (hb3.mono HB.out.size));have y0:=pw_cell_below hb3 HX0.out;clear hd3 C1 x0
   by_cases h:v<m
   ·have b1:decide (v<m)=true:=DET h
    have HN:=Hd (show 0<=v ↔ 0<=valI f (-1) /\ ∀ j ∈ f.take (i+1),0<=valI f j.f0 by
     rw[HT.out (fun j=>0<=valI f j.f0), <- and_assoc, <- HE.out,HV.out]
     constructor
     ·intro h2;exact⟨by omega,h2⟩
     ·rintro⟨_,h2⟩;exact h2)
    have C2:=Hd (VC.out Y.f0 w3 HB3.out);rw[HV.out] at C2;clear h hb3
    go_wp2_with (go_at_call 25;refine hold3 ?_)
    refine⟨?_⟩;refine C2.out.mono ?_;rintro e w4 ⟨rfl,hd4⟩;have HB4:=Hd (HB3.out.trans (hd4.below.mono HB3.out.size));clear hd4 C2 y0;go_wp2;go_roundw
    case rel=>exact⟨i+1,v,c,(by first | rw[hwr] | go_num),rfl,⟨HN.out⟩,⟨HB4.out⟩⟩
    case measure=>first | (rw[hwr];simp[intOf];omega) | (simp[intOf];omega)
   ·have b1:decide (v<m)=false:=DEF h
    have HN:=Hd (show 0<=m ↔ 0<=valI f (-1) /\ ∀ j ∈ f.take (i+1),0<=valI f j.f0 by
     rw[HT.out (fun j=>0<=valI f j.f0), <- and_assoc, <- HE.out,HV.out]
     constructor
     ·intro h2;exact⟨h2,by omega⟩
     ·rintro⟨h2,_⟩;exact h2)
    clear h hb3;go_wp2;go_roundw
    case rel=>exact⟨i+1,m,c,(by first | rw[hwr] | go_num),rfl,⟨HN.out⟩,⟨HB3.out⟩⟩
    case measure=>first | (rw[hwr];simp[intOf];omega) | (simp[intOf];omega)
  ·obtain rfl:i=f.length:=by omega
   rw[List.take_length] at HE;have HF:=Hd (HE.out.trans HNN.out);clear HE;go_wp2;go_ret;exact⟨m,rfl,HF.out,HB.out⟩
theorem htable_calls (A0:Option Addr) (c0:Nat) (l:List EdP) (w:World) (hr0:Kd.C kE w A0 l.length l) (hc0:l.length<=c0) (hl:l.length<=1024) (hrow:∀ e ∈ l,e.f0.length<=4398046511104) :
  Calls Tryz.prog 80 #[.slice A0 l.length c0] w fun e w'=>e = .returned (.bool (tableE l))/\Below w.heap.size w w':=by
 have MC:=Hd (hmay_calls A0 c0 l w hr0 hc0 hl hrow);have HR:=Hd hr0;have HC:=Hd hc0;have HL:=Hd hl;have HRW:=Hd hrow;obtain⟨m,hm⟩:∃ m,mayE l=m:=⟨_,rfl⟩
 rw[hm] at MC;have HM:=Hd hm;clear hr0 hc0 hl hrow hm;go_enter Tryz.func80,Tryz.ntmps80
 go_wp2_with (go_at_call 50;refine hold3 ?_)
 refine⟨?_⟩;refine MC.out.mono ?_;rintro e w1 ⟨rfl,hb1⟩;have HB1:=Hd hb1;clear hb1 MC;cases m with
 | false =>
  have HV:=Hd (show tableE l=false by
   rw[Bool.eq_false_iff];intro h;have:=(mayE_iff l).2 ((table_iff l).1 h).1;rw[HM.out] at this;cases this)
  go_wp2;go_ret;exact⟨by rw[HV.out];rfl,HB1.out⟩
 | true =>
  have HP:=Hd ((mayE_iff l).1 HM.out)
  go_wp2_with (go_at_call 66;refine hold3 ?_)
  refine⟨?_⟩;refine (hrows_calls A0 c0 l w w1 HR.out HB1.out (by have:=HL.out;omega) (fun e he=>(HP.out.each e he).1)).mono ?_;rintro e w2 ⟨v,rfl,hRr,hb2⟩;obtain⟨Ar,cr,rfl⟩:=Kd.R_slice hRr;have HB2:=Hd (HB1.out.trans (hb2.mono HB1.out.size));have HRC:=Hd (kHd_C HB2.out (Kd.R_reads' hRr).2.2);obtain⟨RS,hRS⟩:∃ z,rowsOf l=z:=⟨_,rfl⟩
  rw[hRS] at HRC ⊢;have HRS:=Hd hRS;have hrl:RS.length<=1024:=by
   have:=insR_len l;rw[insR_eq,hRS] at this;have:=HL.out;omega
  clear hRr hb2 hRS;go_wp2
  go_loopw [4] (fun v4 wr=>∃ (j:Nat),j<=RS.length/\v4 = .int .i64 (j:Int)/\Aside0 (∀ r ∈ RS.take j, ∀ t,0<=valI (jumpsOf l r) t)/\Aside0 (Below w2.heap.size w2 wr)) (fun v4 wr=>RS.length - (intOf v4).toNat)
  case atStart=>exact⟨0,Nat.zero_le _,rfl,⟨by simp⟩,⟨Below.refl _ _⟩⟩
  case round =>
   obtain⟨j,hj,rfl,HN,HB⟩:=hrel
   by_cases c:j<RS.length
   ·obtain⟨r,hr⟩:∃ r,RS[j]=r:=⟨_,rfl⟩
    obtain⟨a3,Ay,cy,e3,y0,y1,y2⟩:=at_L3 (Kd.C_below HRC.out HB.out) (j:Int) zq4 zq4;rw[rdR RS j c,hr] at y0 y1 y2;rw[Int.toNat_natCast] at y0;cases e3;obtain⟨kj,hkj⟩:=(jumps10 l r HRW.out (by have:=HL.out;omega)).get;have JC:=Hd (r10_Jumps.calls kj A0 c0 l Ay cy r (jumpsOf l r) wr (Kd.C_below HR.out (HB2.out.trans (HB.out.mono HB2.out.size))) HC.out y2 y1 hkj);have HMJ:=Hd (show mayJ (jumpsOf l r)=true from by
     have h:=mayE_all HM.out;rw[runs_groups l (isC_rows HP.out.can)] at h;exact (h (r,jumpsOf l r) (List.mem_map.2 ⟨r,by rw[HRS.out, <- hr];exact List.getElem_mem c,rfl⟩)).2)
    have HT:=Hd (show RS.take (j+1)=RS.take j ++ [r] by rw[List.take_add_one,List.getElem?_eq_getElem c,hr];rfl);have HMM:=Hd (show r ∈ RS by rw[<- hr];exact List.getElem_mem c);have pJ:(0<=(j:Int))=True:=eq_true zq4;have qJ:((j:Int)<(RS.length:Int))=True:=eq_true zq4;have hwr:=wrapN j zq4;clear y1 y2 hkj hr
    go_wp2_with (go_at_call 26;refine hold3 ?_)
    refine⟨?_⟩;refine JC.out.mono ?_;rintro e w3 ⟨vj,rfl,hRj,hb3⟩;obtain⟨Aj,cj,rfl⟩:=Kd.R_slice hRj;have HB3:=Hd (HB.out.trans (hb3.mono HB.out.size));have LC:=Hd (hleast_calls Aj cj (jumpsOf l r) w3 HMJ.out (Kd.R_reads' hRj).2.2 (Kd.R_reads' hRj).2.1);clear hRj hb3 JC y0
    go_wp2_with (go_at_call 122;refine hold3 ?_)
    refine⟨?_⟩;refine LC.out.mono ?_;rintro e w4 ⟨m,rfl,hmn,hb4⟩;have HB4:=Hd (HB3.out.trans (hb4.mono HB3.out.size));have HMN:=Hd hmn;clear hb4 LC hmn
    by_cases h0:m<0
    ·have b0:decide (m<0)=true:=DET h0
     have HV:=Hd (show tableE l=false by
      rw[Bool.eq_false_iff];intro h;have h2:=((table_iff l).1 h).2 r;have:=HMN.out.2 h2;omega)
     clear h0;go_wp2;go_ret;exact⟨by rw[HV.out];rfl,HB2.out.trans (HB4.out.mono HB2.out.size)⟩
    ·have b0:decide (m<0)=false:=DEF h0
     have HN2:=Hd (show ∀ r' ∈ RS.take (j+1), ∀ t,0<=valI (jumpsOf l r') t by
      intro r' hr';rw[HT.out,List.mem_append,List.mem_singleton] at hr'
      rcases hr' with hr' | hr'
      ·exact HN.out r' hr'
      ·rw[hr'];exact HMN.out.1 zq4)
     clear h0;go_wp2;go_roundw
     case rel=>exact⟨j+1,c,(by first | rw[hwr] | go_num),⟨HN2.out⟩,⟨HB4.out⟩⟩
     case measure=>first | (rw[hwr];simp[intOf];omega) | (simp[intOf];omega)
   ·obtain rfl:j=RS.length:=by omega
    have HV:=Hd (show tableE l=true by
     have h:=HN.out;rw[List.take_length] at h;refine (table_iff l).2 ⟨HP.out,fun r t=>?_⟩
     by_cases hr:r ∈ RS
     ·exact h r hr t
     ·have:jumpsOf l r=[]:=by
       unfold jumpsOf;rw[List.map_eq_nil_iff,List.filter_eq_nil_iff];intro e he h2;exact hr (by rw[<- HRS.out];exact (rowsOf_mem l r).2 ⟨e,he,(eqR_iff _ _).1 h2⟩)
      rw[this];exact Int.le_refl _)
    go_wp2;go_ret;exact⟨by rw[HV.out];rfl,HB2.out.trans (HB.out.mono HB2.out.size)⟩
theorem ask_err {hh:List Vl->Bool × Int} {x y:Gq} {sum:List Jp} {e:Int} (h:partnerV hh x y=(false,e)):askV hh x sum y=(sum,e):=by
 unfold askV;rw[h,if_neg zq30]
theorem ask_bad {hh:List Vl->Bool × Int} {x y:Gq} {sum:List Jp} {b:Bool} {e:Int} (h:partnerV hh x y=(b,e)) (he:e ≠ 0):askV hh x sum y=(sum,e):=by
 unfold askV;rw[h,if_neg (by simp[he])]
theorem ask_yes {hh:List Vl->Bool × Int} {x y:Gq} {sum:List Jp} (h:partnerV hh x y=(true,0)):askV hh x sum y=bothV (· + ·) sum y.2:=by
 unfold askV;rw[h,if_pos zq30]
theorem refparts_calls (hh:List Vl->Bool × Int) (Ar Af A0 A2:Option Addr) (cr cf c0 c2:Nat) (r:List Vl) (f:List Jp) (l:List EdP) (x:List Op18) (w:World) (hrr:Kd.C kV w Ar r.length r) (hcr:r.length<=cr) (hrf:Kd.C kJp w Af f.length f) (hcf:f.length<=cf)
  (hr0:Kd.C kE w A0 l.length l) (hc0:l.length<=c0) (hr2:Kd.C kOp w A2 x.length x) (hc2:x.length<=c2)
  (hl:l.length<=40) (hwl:∀ e ∈ l,e.f0.length<=4398046511104)
  (hHO:∀ (e':EdP),e' ∈ l -> ∀ (A:Option Addr) (c:Nat) (W:World),Below w.heap.size w W->Kd.C kV W A (r ++ e'.f0).length (r ++ e'.f0)->(r ++ e'.f0).length<=c ->
   Calls Tryz.prog 52 #[.slice A2 x.length c2,.slice A (r ++ e'.f0).length c] W fun z w'=>z = .returned (.tuple #[.bool (hh (r ++ e'.f0)).1,.int .i64 (hh (r ++ e'.f0)).2])/\Below W.heap.size W w') :
  Calls Tryz.prog 42 #[.slice Ar r.length cr,.slice Af f.length cf,.slice A0 l.length c0,.slice A2 x.length c2] w fun e w'=>∃ v,e = .returned (.tuple #[v,.int .i64 (partnersV hh (EvP.formV x) (r,f) l).2])/\Kd.R kJp tJ w' w.heap.size (fun _=>True) v (partnersV hh (EvP.formV x) (r,f) l).1/\Below w.heap.size w w':=by
 have MR:=Hd ((EvP.mayR r).get.elim fun k hk=>r06_May.calls k Ar cr r _ w hrr hcr hk);have MF:=Hd (fun (W:World) (h:Below w.heap.size w W)=>(may09 f).get.elim fun k hk=>r09_May.calls k Af cf f _ W (Kd.C_below hrf h) hcf hk);have ML:=Hd (fun (W:World) (h:Below w.heap.size w W)=>hmay_calls A0 c0 l W (Kd.C_below hr0 h) hc0 zq4 hwl);have TL:=Hd (fun (W:World) (h:Below w.heap.size w W)=>htable_calls A0 c0 l W (Kd.C_below hr0 h) hc0 zq4 hwl);have FC:=Hd (fun (W:World) (h:Below w.heap.size w W)=>(EvP.form_R x).get.elim fun k hk=>r17_Form.calls k A2 c2 x (EvP.formV x) W (Kd.C_below hr2 h) hc2 hk);have RL:=Hd (fun (hm:mayE l=true) (W:World) (h:Below w.heap.size w W)=>hrows_calls A0 c0 l w W hr0 h zq4 (fun e he=>by
  exact (((mayE_iff l).1 hm).each e he).1))
 have JL:=Hd (fun (p:List Vl) (A:Option Addr) (c:Nat) (W:World) (h:Below w.heap.size w W) (h1:Kd.C kV W A p.length p) (h2:p.length<=c)=>(jumps10 l p hwl zq4).get.elim fun k hk=>r10_Jumps.calls k A0 c0 l A c p (jumpsOf l p) W (Kd.C_below hr0 h) hc0 h1 h2 hk);have HRR:=Hd (And.intro hcr (fun (W:World) (h:Below w.heap.size w W)=>Kd.C_below hrr h));have HRF:=Hd (And.intro hcf (fun (W:World) (h:Below w.heap.size w W)=>Kd.C_below hrf h));have HHO:=Hd hHO;have HL:=Hd hl;obtain⟨fe,hfe⟩:∃ z,EvP.formV x=z:=⟨_,rfl⟩
 rw[hfe] at FC ⊢;obtain⟨P,hP⟩:∃ z,partnersV hh fe (r,f) l=z:=⟨_,rfl⟩
 have HPV:=Hd (show P=if (rowMay r && mayJ f && mayE l)=true then (if tableE l=true then (if fe ≠ 0 then ([],fe) else partsR hh (r,f) [] (runsP l)) else ([],20)) else ([],2) by rw[<- hP];rfl);rw[hP];obtain⟨b1,hb1⟩:∃ z,rowMay r=z:=⟨_,rfl⟩
 obtain⟨b2,hb2⟩:∃ z,mayJ f=z:=⟨_,rfl⟩
 obtain⟨b3,hb3⟩:∃ z,mayE l=z:=⟨_,rfl⟩
 obtain⟨b4,hb4⟩:∃ z,tableE l=z:=⟨_,rfl⟩
 have HM3:=Hd hb3;rw[hb1] at MR HPV;rw[hb2] at MF HPV;rw[hb3] at ML HPV;rw[hb4] at TL HPV;clear hrr hcr hrf hcf hr0 hc0 hr2 hc2 hl hwl hHO hfe hP hb1 hb2 hb3 hb4;go_enter Tryz.func42,Tryz.ntmps42
 go_wp2_with (go_at_call 69;refine hold3 ?_)
 refine⟨?_⟩;refine MR.out.mono ?_;rintro e w1 ⟨rfl,hd⟩;have HBX:=Hd (show Below w.heap.size w w1 from hd);clear hd MR;cases b1 with
 | false =>
  have HV:=Hd (show P=([],2) by rw[HPV.out];simp);go_wp2;go_ret2;rw[HV.out];exact⟨_,rfl,Kd.R_nil _ _ _ _ _,HBX.out⟩
 | true =>
 have HB1:=Hd HBX.out;clear HBX
 go_wp2_with (go_at_call 79;refine hold3 ?_)
 refine⟨?_⟩;refine (MF.out _ HB1.out).mono ?_;rintro e w2 ⟨rfl,hd⟩;have HBX:=Hd (HB1.out.trans (hd.below.mono HB1.out.size));clear hd MF;cases b2 with
 | false =>
  have HV:=Hd (show P=([],2) by rw[HPV.out];simp);go_wp2;go_ret2;rw[HV.out];exact⟨_,rfl,Kd.R_nil _ _ _ _ _,HBX.out⟩
 | true =>
 have HB2:=Hd HBX.out;clear HBX
 go_wp2_with (go_at_call 50;refine hold3 ?_)
 refine⟨?_⟩;refine (ML.out _ HB2.out).mono ?_;rintro e w3 ⟨rfl,hb⟩;have HBX:=Hd (HB2.out.trans (hb.mono HB2.out.size));clear hb ML;cases b3 with
 | false =>
  have HV:=Hd (show P=([],2) by rw[HPV.out];simp);go_wp2;go_ret2;rw[HV.out];exact⟨_,rfl,Kd.R_nil _ _ _ _ _,HBX.out⟩
 | true =>
 have HB3:=Hd HBX.out;clear HBX
 go_wp2_with (go_at_call 80;refine hold3 ?_)
 refine⟨?_⟩;refine (TL.out _ HB3.out).mono ?_;rintro e w4 ⟨rfl,hb⟩;have HBX:=Hd (HB3.out.trans (hb.mono HB3.out.size));clear hb TL;cases b4 with
 | false =>
  have HV:=Hd (show P=([],20) by rw[HPV.out];simp);go_wp2;go_ret2;rw[HV.out];exact⟨_,rfl,Kd.R_nil _ _ _ _ _,HBX.out⟩
 | true =>
 have HB4:=Hd HBX.out;clear HBX
 go_wp2_with (go_at_call 51;refine hold3 ?_)
 refine⟨?_⟩;refine (FC.out _ HB4.out).mono ?_;rintro e w5 ⟨rfl,hb⟩;have HBX:=Hd (HB4.out.trans (hb.mono HB4.out.size));clear hb FC
 by_cases hf0:fe=0
 rotate_left
 ·have hne:(fe != 0)=true:=bne_iff_ne.mpr hf0
  have HV:=Hd (show P=([],fe) by rw[HPV.out];simp[hf0]);clear hf0;go_wp2;go_ret2;rw[HV.out];exact⟨_,rfl,Kd.R_nil _ _ _ _ _,HBX.out⟩
 ·subst hf0
  have HB5:=Hd HBX.out;clear HBX;obtain⟨L,hL⟩:∃ z,rowsOf l=z:=⟨_,rfl⟩
  have R1:=Hd (RL.out HM3.out);rw[hL] at R1;have HLL:=Hd (show L.length<=40 by
   have h1:=rowsx_len l;rw[hL] at h1;have:=HL.out;omega)
  obtain⟨G,hG⟩:∃ z,groups l=z:=⟨_,rfl⟩
  have HGL:=Hd (show G=L.map fun p=>(p,jumpsOf l p) by rw[<- hG, <- hL];rfl);have HV:=Hd (show P=partsR hh (r,f) [] G by
   rw[HPV.out,may_groups HM3.out,hG];simp)
  have HML2:=Hd (show ∀ p ∈ L, ∃ e ∈ l,e.f0=p from fun p hp=>(rowsOf_mem l p).1 (by rw[hL];exact hp));clear RL hL hG HPV
  go_wp2_with (first
   | (go_at_call 66;refine hold3 ?_)
   | ((with_reducible refine gate_dst (N:=44) rfl ?_);refine Kd.R_lit kJp _ tJ ?hg (N:=44) ?hd (xs:=([]:List Jp)) (inner:=[]) (ok:=fun _=>True) (okp:=fun _=>True) ?hr ?hp (fun _ hk=>hk) trivial (Below.refl _ _) (Nat.le_refl _) zq30 ?_;(case hd=>rfl);(case hg=>rfl);(case hr=>first | (go_simp;done) | (go_simp;rfl));(case hp=>exact (Reps.none _ _));intro v9 w6 ho hb hg_ hnew_;obtain⟨A9,c9,rfl⟩:=Kd.R_slice ho;have HO6:=Hd ho;have HB6:=Hd hb;clear ho hb hg_ hnew_))
  refine⟨?_⟩;refine (R1.out w6 (HB5.out.trans (HB6.out.mono HB5.out.size))).mono ?_;rintro e w7 ⟨v10,rfl,hRL,hb7⟩;obtain⟨AL,cL,rfl⟩:=Kd.R_slice hRL;have HRL:=Hd (Kd.R_lower hRL (Nat.zero_le _));have HB7:=Hd (HB5.out.trans ((HB6.out.trans (hb7.mono HB6.out.size)).mono HB5.out.size));have HO7:=Hd (Kd.R_lower (Kd.R_below HO6.out hb7) HB5.out.size);clear hRL hb7 R1 HO6 HB6 HB5;go_wp2
  go_loopw [11,13] (fun v11 v13 wr=>∃ (i:Nat) (sum:List Jp) (A9:Option Addr) (c9:Nat),i<=L.length/\v13 = .int .i64 (i:Int)/\v11 = .slice A9 sum.length c9/\Aside0 (Kd.R kJp tJ wr w.heap.size (fun _=>True) (.slice A9 sum.length c9) sum)/\Aside0 (Below w.heap.size w wr)/\Aside0 ((kH w).R tR wr 0 (fun _=>True) (.slice AL L.length cL) L) /\
   Aside0 (partsR hh (r,f) [] G=partsR hh (r,f) sum (G.drop i))) (fun v11 v13 wr=>L.length - (intOf v13).toNat)
  case atStart=>exact⟨0,[],A9,c9,Nat.zero_le _,rfl,rfl,⟨HO7.out⟩,⟨HB7.out⟩,⟨HRL.out⟩,⟨by rw[List.drop_zero]⟩⟩
  case round =>
   clear HO7 HB7 HRL;obtain⟨i,sum,A9,c9,hi,rfl,rfl,HS,HB,HLR,HEQ⟩:=hrel;have hll:=HLL.out
   by_cases ci:i<L.length
   ·obtain⟨p,hp⟩:∃ p,L[i]=p:=⟨_,rfl⟩
    have hpi:L[i]? = some p:=by rw[List.getElem?_eq_getElem ci,hp]
    obtain⟨ad,Ax,cx,eL,x0,xl,xC⟩:=at_H (Kd.R_reads' HLR.out).2.2 i p hpi;cases eL;obtain⟨e2,he2,hq2⟩:=HML2.out p (List.mem_of_getElem? hpi);have HHK:=Hd (HHO.out e2 he2);rw[hq2] at HHK;have HST:=Hd (partsR_drop hh (r,f) sum G i (p,jumpsOf l p) (by rw[HGL.out,List.getElem?_map,hpi];rfl));rw[<- HEQ.out] at HST;obtain⟨g,hg⟩:∃ z,jumpsOf l p=z:=⟨_,rfl⟩
    have C1:=Hd (JL.out p Ax cx wr HB.out (Kd.C_below xC HB.out) xl);rw[hg] at C1 HST;have X0:=Hd (fun (W:World) (h:Below wr.heap.size wr W)=>pw_cell_below h x0);have XC:=Hd (And.intro xl xC);obtain⟨⟨h,ef⟩,hbv⟩:∃ z,bothV (· * ·) f g=z:=⟨_,rfl⟩
    have TC:=Hd (fun (Ak:Option Addr) (ck:Nat) (W:World) (h0:Below w.heap.size w W) (h3:Kd.C kJp W Ak g.length g) (h4:g.length<=ck)=>show Calls Tryz.prog 67 #[.slice Af f.length cf,.slice Ak g.length ck,.int .i64 1] W fun e w'=>∃ v,e = .returned (.tuple #[v,.int .i64 ef])/\Kd.R kJp tJ w' W.heap.size (fun _=>True) v h/\Below W.heap.size W w' by
     have h:=htwo_calls 1 zq30 Af Ak cf ck f g W (HRF.out.2 W h0) HRF.out.1 h3 h4;rw[show opW 1=(· * ·) from rfl,hbv] at h;exact h)
    have SC:=Hd (fun (Ak:Option Addr) (ck:Nat) (W:World) (h1:Kd.C kJp W A9 sum.length sum) (h3:Kd.C kJp W Ak g.length g) (h4:g.length<=ck)=>show Calls Tryz.prog 67 #[.slice A9 sum.length c9,.slice Ak g.length ck,.int .i64 0] W fun e w'=>∃ v,e = .returned (.tuple #[v,.int .i64 (bothV (· + ·) sum g).2])/\Kd.R kJp tJ w' W.heap.size (fun _=>True) v (bothV (· + ·) sum g).1/\Below W.heap.size W w' by
     have h:=htwo_calls 0 zq30 A9 Ak c9 ck sum g W h1 (Kd.R_reads' HS.out).2.1 h3 h4;rw[show opW 0=(· + ·) from rfl] at h;exact h)
    have HBV:=Hd hbv;have pI:(0<=(i:Int))=True:=eq_true zq4;have qI:((i:Int)<(L.length:Int))=True:=eq_true zq4;have hwi:=wrapN i zq4;clear xl xC hbv hpi hp hq2 he2 hg
    go_wp2_with (go_at_call 26;refine hold3 ?_)
    refine⟨?_⟩;refine C1.out.mono ?_;rintro e w8 ⟨vj,rfl,hRj,hb8⟩;obtain⟨Aj,cj,rfl⟩:=Kd.R_slice hRj;have HJ:=Hd (Kd.R_reads' hRj);have H8:=Hd hb8;clear hRj hb8 C1 x0
    go_wp2_with (go_at_call 67;refine hold3 ?_)
    refine⟨?_⟩;refine (TC.out _ _ _ (HB.out.trans (H8.out.mono HB.out.size)) HJ.out.2.2 HJ.out.2.1).mono ?_;rintro e w9 ⟨vh,rfl,hRh,hb9⟩;obtain⟨Ah,ch,rfl⟩:=Kd.R_slice hRh;have H9:=Hd (H8.out.trans (hb9.mono H8.out.size));have HJ9:=Hd (And.intro HJ.out.2.1 (Kd.C_below HJ.out.2.2 hb9));have HBX:=Hd (HB.out.trans (H9.out.mono HB.out.size));clear hRh hb9 TC H8 HJ
    by_cases hef:ef=0
    rotate_left
    ·have hne:(ef != 0)=true:=bne_iff_ne.mpr hef
     have HE:=Hd (ask_err (sum:=sum) (show partnerV hh (r,f) (p,g)=(false,ef) by unfold partnerV;simp only;rw[HBV.out,if_pos hef]));have HV2:=Hd (show P=([],ef) by rw[HV.out,HST.out,HE.out,if_pos hef]);clear hef HST;go_wp2;go_ret2;rw[HV2.out];exact⟨_,rfl,Kd.R_nil _ _ _ _ _,HBX.out⟩
    ·subst hef
     by_cases hh0:h=[]
     ·subst hh0
      have HE:=Hd (ask_err (sum:=sum) (show partnerV hh (r,f) (p,g)=(false,0) by unfold partnerV;simp only;rw[HBV.out,if_neg zq30,if_pos rfl]));have HSN:=Hd (Kd.R_below HS.out H9.out);have HLN:=Hd (Kd.R_below HLR.out H9.out);have HEN:=Hd (show partsR hh (r,f) [] G=partsR hh (r,f) sum (G.drop (i+1)) by rw[HST.out,HE.out,if_neg zq30]);clear HST;go_wp2;go_roundw
      case rel=>exact⟨i+1,sum,A9,c9,by omega,(by first | rw[hwi] | go_num),rfl,⟨HSN.out⟩,⟨HBX.out⟩,⟨HLN.out⟩,⟨HEN.out⟩⟩
      case measure=>first | (rw[hwi];simp[intOf];omega) | (simp[intOf];omega)
     ·have hfl:((h.length:Int) == 0)=false:=BNM (by intro e;exact hh0 (List.eq_nil_of_length_eq_zero zq4))
      have HH0:=Hd hh0;obtain⟨⟨both,ej⟩,hjv⟩:∃ z,joinV r p=z:=⟨_,rfl⟩
      have JC:=Hd ((join06 r p).get.elim fun kj hkj=>show Calls Tryz.prog 32 #[.slice Ar r.length cr,.slice Ax p.length cx] w9 fun e w'=>∃ v,e = .returned (.tuple #[v,.int .i64 ej])/\Kd.R kV tV w' w9.heap.size (fun _=>True) v both/\Below w9.heap.size w9 w' by
       rw[hjv] at hkj;exact r06_Join.calls kj Ar cr r Ax cx p both ej w9 (HRR.out.2 _ HBX.out) HRR.out.1 (Kd.C_below XC.out.2 HBX.out) XC.out.1 hkj)
      have HJV:=Hd hjv;have x9:=X0.out _ H9.out;have HBY:=Hd HBX.out;clear hh0 hjv HBX
      go_wp2_with (go_at_call 32;refine hold3 ?_)
      refine⟨?_⟩;refine JC.out.mono ?_;rintro e w10 ⟨vb,rfl,hRb,hb10⟩;obtain⟨Ab,cb,rfl⟩:=Kd.R_slice hRb;have HBO:=Hd (Kd.R_reads' hRb);have H10:=Hd (H9.out.trans (hb10.mono H9.out.size));have HJ10:=Hd (And.intro HJ9.out.1 (Kd.C_below HJ9.out.2 hb10));have HBX:=Hd (HB.out.trans (H10.out.mono HB.out.size));clear hRb hb10 JC x9 HBY HJ9 H9
      by_cases hej:ej=0
      rotate_left
      ·have hne:(ej != 0)=true:=bne_iff_ne.mpr hej
       have HE:=Hd (ask_err (sum:=sum) (show partnerV hh (r,f) (p,g)=(false,ej) by unfold partnerV;simp only;rw[HBV.out,if_neg zq30,if_neg HH0.out,HJV.out,if_pos hej]));have HV2:=Hd (show P=([],ej) by rw[HV.out,HST.out,HE.out,if_pos hej]);clear hej HST;go_wp2;go_ret2;rw[HV2.out];exact⟨_,rfl,Kd.R_nil _ _ _ _ _,HBX.out⟩
      ·subst hej
       obtain⟨_,_,_,hbe⟩:=joinV_ok HJV.out;have hHK:=HHK.out Ab cb w10 HBX.out;rw[<- hbe] at hHK;have HC:=Hd (hHK HBO.out.2.2 HBO.out.2.1);obtain⟨⟨hv,eh⟩,hhv⟩:∃ z,hh both=z:=⟨_,rfl⟩
       rw[hhv] at HC;have HE0:=Hd (show partnerV hh (r,f) (p,g)=(hv,eh) by unfold partnerV;simp only;rw[HBV.out,if_neg zq30,if_neg HH0.out,HJV.out,if_neg zq30,hhv]);have HBY:=Hd HBX.out;clear hHK hbe hhv HBX
       go_wp2_with (go_at_call 52;refine hold3 ?_)
       refine⟨?_⟩;refine HC.out.mono ?_;rintro e w11 ⟨rfl,hb11⟩;have H11:=Hd (H10.out.trans (hb11.mono H10.out.size));have HJ11:=Hd (And.intro HJ10.out.1 (Kd.C_below HJ10.out.2 hb11));have HBX:=Hd (HB.out.trans (H11.out.mono HB.out.size));clear hb11 HC H10 HJ10 HBY
       by_cases heh:eh=0
       rotate_left
       ·have hne:(eh != 0)=true:=bne_iff_ne.mpr heh
        have HE:=Hd (ask_bad (sum:=sum) HE0.out heh);have HV2:=Hd (show P=([],eh) by rw[HV.out,HST.out,HE.out,if_pos heh]);clear heh HST;go_wp2;go_ret2;rw[HV2.out];exact⟨_,rfl,Kd.R_nil _ _ _ _ _,HBX.out⟩
       ·subst heh
        cases hv with
        | false =>
         have HE:=Hd (ask_err (sum:=sum) HE0.out);have HSN:=Hd (Kd.R_below HS.out H11.out);have HLN:=Hd (Kd.R_below HLR.out H11.out);have HEN:=Hd (show partsR hh (r,f) [] G=partsR hh (r,f) sum (G.drop (i+1)) by rw[HST.out,HE.out,if_neg zq30]);clear HST;go_wp2;go_roundw
         case rel=>exact⟨i+1,sum,A9,c9,by omega,(by first | rw[hwi] | go_num),rfl,⟨HSN.out⟩,⟨HBX.out⟩,⟨HLN.out⟩,⟨HEN.out⟩⟩
         case measure=>first | (rw[hwi];simp[intOf];omega) | (simp[intOf];omega)
        | true =>
         have HE1:=Hd (ask_yes (sum:=sum) HE0.out);have C2:=Hd (SC.out Aj cj w11 (Kd.C_below (Kd.R_reads' HS.out).2.2 H11.out) HJ11.out.2 HJ11.out.1);obtain⟨⟨sn,es⟩,hsn⟩:∃ z,bothV (· + ·) sum g=z:=⟨_,rfl⟩
         rw[hsn] at C2;have HE:=Hd (show askV hh (r,f) sum (p,g)=(sn,es) by rw[HE1.out];exact hsn);have HBY:=Hd HBX.out;clear hsn HBX
         go_wp2_with (go_at_call 67;refine hold3 ?_)
         refine⟨?_⟩;refine C2.out.mono ?_;rintro e w12 ⟨vs,rfl,hRs,hb12⟩;obtain⟨As,cs,rfl⟩:=Kd.R_slice hRs;have H12:=Hd (H11.out.trans (hb12.mono H11.out.size));have HSN:=Hd (Kd.R_lower hRs HBY.out.size);have HBX:=Hd (HB.out.trans (H12.out.mono HB.out.size));have HLN:=Hd (Kd.R_below HLR.out H12.out);clear hb12 hRs C2
         by_cases hes:es=0
         rotate_left
         ·have hne:(es != 0)=true:=bne_iff_ne.mpr hes
          have HV2:=Hd (show P=([],es) by rw[HV.out,HST.out,HE.out,if_pos hes]);clear hes HST;go_wp2;go_ret2;rw[HV2.out];exact⟨_,rfl,Kd.R_nil _ _ _ _ _,HBX.out⟩
         ·subst hes
          have HEN:=Hd (show partsR hh (r,f) [] G=partsR hh (r,f) sn (G.drop (i+1)) by rw[HST.out,HE.out,if_neg zq30]);clear HST;go_wp2;go_roundw
          case rel=>exact⟨i+1,sn,As,cs,by omega,(by first | rw[hwi] | go_num),rfl,⟨HSN.out⟩,⟨HBX.out⟩,⟨HLN.out⟩,⟨HEN.out⟩⟩
          case measure=>first | (rw[hwi];simp[intOf];omega) | (simp[intOf];omega)
   ·obtain rfl:i=L.length:=by omega
    have HV2:=Hd (show P=(sum,0) by
     have hlen:G.length=L.length:=by rw[HGL.out,List.length_map]
     rw[HV.out,HEQ.out,List.drop_eq_nil_of_le (by rw[hlen];exact Nat.le_refl _),partsR])
    go_wp2;go_ret2;rw[HV2.out];exact⟨_,rfl,HS.out,HB.out⟩
end Go.Proofs.YtmkgecapkeojaaaGreat.Eg
end
section
namespace Go.Proofs.YtmkgecapkeojaaaGreat.Eg
open PDa EvP
open RowKit YtmkgecapkeojaaaGreatW.PrintWords YtmkgecapkeojaaaGreatW.PrintLast YtmkgecapkeojaaaGreatW.PrintMore
open Stp Rw
theorem r64b {z:Int} (h:(Lit.int .i64 z).wf=true):PDd.r64 z=true:=by
 have:=R64.of_wf h;unfold PDd.r64;rw[Bool.and_eq_true];exact⟨DET this.1,DET this.2⟩
abbrev wfV (v:Rw.Vl):Prop:=(Lit.int .i64 v.f0).wf=true/\(Lit.int .i64 v.f1).wf=true/\v.f2.size<=140737488351232
abbrev wfE (e:EdP):Prop:=((∀ v ∈ e.f0,wfV v)/\e.f0.length*Tryz.prog.bytesOf 65<=140737488351232)/\(Lit.int .i64 e.f1).wf=true/\(Lit.int .i64 e.f2).wf=true
abbrev wfEs (l:List EdP):Prop:=(∀ e ∈ l,wfE e)/\l.length*Tryz.prog.bytesOf 41<=140737488351232
abbrev wfO (x:Op8):Prop:=(Lit.int .i64 x.f0).wf=true/\(Lit.int .i64 x.f1).wf=true/\x.f2.size<=140737488351232
abbrev wfX (l:List Op8):Prop:=(∀ x ∈ l,wfO x)/\l.length*Tryz.prog.bytesOf 68<=140737488351232
theorem bytesV:Tryz.prog.bytesOf 65=32:=by kernel_rfl
theorem okEs_wf {l:List EdP} (h:wfEs l):PDd.okEs l=true:=by
 unfold PDd.okEs;refine List.all_eq_true.2 fun e he=>?_
 obtain⟨⟨h1,h2⟩,_⟩:=h.1 e he;rw[bytesV] at h2;rw[Bool.and_eq_true];exact⟨DET zq4,List.all_eq_true.2 fun v hv=>r64b (h1 v hv).2.1⟩
theorem okXs_wf {l:List Op8} (h:wfX l):PDd.okXs l=true:=List.all_eq_true.2 fun x hx=>r64b (h.1 x hx).2.1
end Go.Proofs.YtmkgecapkeojaaaGreat.Eg
end
section
namespace Go.Proofs.YtmkgecapkeojaaaGreat.Eg
open PDa
open RowKit YtmkgecapkeojaaaGreatW.PrintWords YtmkgecapkeojaaaGreatW.PrintLast YtmkgecapkeojaaaGreatW.PrintMore
open Stp Rw
theorem few32 (A0:Option Addr) (c0 n:Nat) (w:World):Calls Tryz.prog 39 #[.slice A0 n c0] w fun e w'=>e = .returned (.bool (decide ((n:Int)<=40)))/\Below w.heap.size w w':=by
 go_enter Tryz.func39,Tryz.ntmps39;go_wp2;go_ret;exact⟨rfl,Below.refl _ _⟩
theorem partsR_len (hh:List Vl->Bool × Int) (x:Gq):∀ (G:List Gq) (sum:List Jp),(∀ y ∈ G,y.2.length<=40)->(partsR hh x sum G).1.length<=sum.length+40*G.length
 | [],sum,_=>Nat.le_refl _
 | y :: ys,sum,h=>by
  rw[partsR]
  split
  ·exact Nat.zero_le _
  ·have h1:=partsR_len hh x ys (askV hh x sum y).1 (fun z hz=>h z (List.mem_cons_of_mem _ hz))
   have h2:(askV hh x sum y).1.length<=sum.length+40:=by
    unfold askV
    split
    ·have:=bothV_len (· + ·) sum y.2
     have:=h y List.mem_cons_self;omega
    ·exact Nat.le_add_right _ _
   rw[List.length_cons];omega
theorem parts_is {hh:List Vl->Bool × Int} {x:Gq} {r:List EdP} (h1:rowMay x.1=true) (h2:mayJ x.2=true) (h3:mayE r=true) (h4:tableE r=true):partnersV hh 0 x r=partsR hh x [] (runsP r):=by
 unfold partnersV;rw[h1,h2,h3,h4];simp
theorem partsR_len2 {r:List EdP} (hh:List Vl->Bool × Int) (x:Gq) (hr:r.length<=40) (hm:mayE r=true):(partsR hh x [] (runsP r)).1.length<=1600:=by
 rw[may_groups hm];have h:=partsR_len hh x (groups r) [] (fun y hy=>by
  obtain⟨p,hp,rfl⟩:=List.mem_map.1 hy;exact Nat.le_trans (jumpsOf_len r p) hr)
 have h2:(groups r).length=(rowsOf r).length:=by unfold groups;exact List.length_map _
 have h3:=rowsx_len r;rw[List.length_nil] at h;omega
theorem refalone_calls (hh:List Vl->Bool × Int) (A0 A1 A2:Option Addr) (c0 c1 c2:Nat) (l r:List EdP) (x:List Op18) (w:World) (hr0:Kd.C kE w A0 l.length l) (hc0:l.length<=c0) (hr1:Kd.C kE w A1 r.length r) (hc1:r.length<=c1) (hr2:Kd.C kOp w A2 x.length x) (hc2:x.length<=c2)
  (hl:l.length<=40) (hl2:r.length<=40) (hwl:∀ e ∈ l,e.f0.length<=4398046511104) (hwr:∀ e ∈ r,e.f0.length<=4398046511104)
  (hHO:∀ (e e':EdP),e ∈ l->e' ∈ r -> ∀ (A:Option Addr) (c:Nat) (W:World),Below w.heap.size w W->Kd.C kV W A (e.f0 ++ e'.f0).length (e.f0 ++ e'.f0)->(e.f0 ++ e'.f0).length<=c ->
   Calls Tryz.prog 52 #[.slice A2 x.length c2,.slice A (e.f0 ++ e'.f0).length c] W fun z w'=>z = .returned (.tuple #[.bool (hh (e.f0 ++ e'.f0)).1,.int .i64 (hh (e.f0 ++ e'.f0)).2])/\Below W.heap.size W w') :
  Calls Tryz.prog 45 #[.slice A0 l.length c0,.slice A1 r.length c1,.slice A2 x.length c2] w fun e w'=>∃ v,e = .returned (.tuple #[v,.int .i64 (aloneV hh (EvP.formV x) l r).2])/\Kd.R kE tE w' w.heap.size (fun _=>True) v (aloneV hh (EvP.formV x) l r).1/\Below w.heap.size w w':=by
 have ML:=Hd (hmay_calls A0 c0 l w hr0 hc0 zq4 hwl);have MR:=Hd (fun (W:World) (h:Below w.heap.size w W)=>hmay_calls A1 c1 r W (Kd.C_below hr1 h) hc1 zq4 hwr);have TL:=Hd (fun (W:World) (h:Below w.heap.size w W)=>htable_calls A0 c0 l W (Kd.C_below hr0 h) hc0 zq4 hwl);have TR:=Hd (fun (W:World) (h:Below w.heap.size w W)=>htable_calls A1 c1 r W (Kd.C_below hr1 h) hc1 zq4 hwr);have FC:=Hd (fun (W:World) (h:Below w.heap.size w W)=>(EvP.form_R x).get.elim fun k hk=>r17_Form.calls k A2 c2 x (EvP.formV x) W (Kd.C_below hr2 h) hc2 hk);have RL:=Hd (fun (hm:mayE l=true) (W:World) (h:Below w.heap.size w W)=>hrows_calls A0 c0 l w W hr0 h zq4 (fun e he=>by
  exact (((mayE_iff l).1 hm).each e he).1))
 have JL:=Hd (fun (p:List Vl) (A:Option Addr) (c:Nat) (W:World) (h:Below w.heap.size w W) (h1:Kd.C kV W A p.length p) (h2:p.length<=c)=>(jumps10 l p hwl zq4).get.elim fun k hk=>r10_Jumps.calls k A0 c0 l A c p (jumpsOf l p) W (Kd.C_below hr0 h) hc0 h1 h2 hk);have PP:=Hd (fun (p:List Vl) (g:List Jp) (e:EdP) (he:e ∈ l) (hp:e.f0=p) (Ar Af:Option Addr) (cr cf:Nat) (W:World) (h:Below w.heap.size w W) (h1:Kd.C kV W Ar p.length p) (h2:p.length<=cr) (h3:Kd.C kJp W Af g.length g) (h4:g.length<=cf)=>refparts_calls hh Ar Af A1 A2 cr cf c1 c2 p g r x W h1 h2 h3 h4 (Kd.C_below hr1 h) hc1 (Kd.C_below hr2 h) hc2 hl2 hwr
  (fun e' he' A c W1 hb hC hc=>by
   subst hp;exact hHO e e' he he' A c W1 (h.trans (hb.mono h.size)) hC hc))
 have HL:=Hd (And.intro hl hl2);obtain⟨fe,hfe⟩:∃ z,EvP.formV x=z:=⟨_,rfl⟩
 rw[hfe] at FC PP ⊢;obtain⟨P,hP⟩:∃ z,aloneV hh fe l r=z:=⟨_,rfl⟩
 have HPV:=Hd (show P=if (mayE l && mayE r)=true then (if (tableE l && tableE r)=true then (if fe ≠ 0 then ([],fe) else if (alR hh (runsP r) [] (runsP l)).2 ≠ 0 then ([],(alR hh (runsP r) [] (runsP l)).2) else normV (alR hh (runsP r) [] (runsP l)).1) else ([],20)) else ([],2) by rw[<- hP];rfl);rw[hP];obtain⟨b1,hb1⟩:∃ z,mayE l=z:=⟨_,rfl⟩
 obtain⟨b2,hb2⟩:∃ z,mayE r=z:=⟨_,rfl⟩
 obtain⟨b3,hb3⟩:∃ z,tableE l=z:=⟨_,rfl⟩
 obtain⟨b4,hb4⟩:∃ z,tableE r=z:=⟨_,rfl⟩
 have HM1:=Hd hb1;have HM2:=Hd hb2;have HM4:=Hd hb4;rw[hb1] at ML HPV;rw[hb2] at MR HPV;rw[hb3] at TL HPV;rw[hb4] at TR HPV;clear hr0 hc0 hr1 hc1 hr2 hc2 hl hl2 hwl hwr hHO hfe hP hb1 hb2 hb3 hb4;go_enter Tryz.func45,Tryz.ntmps45
 go_wp2_with (go_at_call 50;refine hold3 ?_)
 refine⟨?_⟩;refine ML.out.mono ?_;rintro e w1 ⟨rfl,hd⟩;have HBX:=Hd hd;clear hd ML;cases b1 with
 | false =>
  have HV:=Hd (show P=([],2) by rw[HPV.out];simp);go_wp2;go_ret2;rw[HV.out];exact⟨_,rfl,Kd.R_nil _ _ _ _ _,HBX.out⟩
 | true =>
 have HB1:=Hd HBX.out;clear HBX
 go_wp2_with (go_at_call 50;refine hold3 ?_)
 refine⟨?_⟩;refine (MR.out _ HB1.out).mono ?_;rintro e w2 ⟨rfl,hd⟩;have HBX:=Hd (HB1.out.trans (hd.mono HB1.out.size));clear hd MR;cases b2 with
 | false =>
  have HV:=Hd (show P=([],2) by rw[HPV.out];simp);go_wp2;go_ret2;rw[HV.out];exact⟨_,rfl,Kd.R_nil _ _ _ _ _,HBX.out⟩
 | true =>
 have HB2:=Hd HBX.out;clear HBX
 go_wp2_with (go_at_call 80;refine hold3 ?_)
 refine⟨?_⟩;refine (TL.out _ HB2.out).mono ?_;rintro e w3 ⟨rfl,hb⟩;have HBX:=Hd (HB2.out.trans (hb.mono HB2.out.size));clear hb TL;cases b3 with
 | false =>
  have HV:=Hd (show P=([],20) by rw[HPV.out];simp);go_wp2;go_ret2;rw[HV.out];exact⟨_,rfl,Kd.R_nil _ _ _ _ _,HBX.out⟩
 | true =>
 have HB3:=Hd HBX.out;clear HBX
 go_wp2_with (go_at_call 80;refine hold3 ?_)
 refine⟨?_⟩;refine (TR.out _ HB3.out).mono ?_;rintro e w4 ⟨rfl,hb⟩;have HBX:=Hd (HB3.out.trans (hb.mono HB3.out.size));clear hb TR;cases b4 with
 | false =>
  have HV:=Hd (show P=([],20) by rw[HPV.out];simp);go_wp2;go_ret2;rw[HV.out];exact⟨_,rfl,Kd.R_nil _ _ _ _ _,HBX.out⟩
 | true =>
 have HB4:=Hd HBX.out;clear HBX
 go_wp2_with (go_at_call 51;refine hold3 ?_)
 refine⟨?_⟩;refine (FC.out _ HB4.out).mono ?_;rintro e w5 ⟨rfl,hb⟩;have HBX:=Hd (HB4.out.trans (hb.mono HB4.out.size));clear hb FC
 by_cases hf0:fe=0
 rotate_left
 ·have hne:(fe != 0)=true:=bne_iff_ne.mpr hf0
  have HV:=Hd (show P=([],fe) by rw[HPV.out];simp[hf0]);clear hf0;go_wp2;go_ret2;rw[HV.out];exact⟨_,rfl,Kd.R_nil _ _ _ _ _,HBX.out⟩
 ·subst hf0
  have HB5:=Hd HBX.out;clear HBX;obtain⟨L,hL⟩:∃ z,rowsOf l=z:=⟨_,rfl⟩
  have R1:=Hd (RL.out HM1.out);rw[hL] at R1;have HLL:=Hd (show L.length<=40 by
   have h1:=rowsx_len l;rw[hL] at h1;have:=HL.out;omega)
  obtain⟨G,hG⟩:∃ z,groups l=z:=⟨_,rfl⟩
  have HPL:=Hd (fun x=>partsR_len2 (r:=r) hh x HL.out.2 HM2.out);have HPI:=Hd (fun (x:Gq) (h1:rowMay x.1=true) (h2:mayJ x.2=true)=>parts_is (hh:=hh) h1 h2 HM2.out HM4.out);obtain⟨R,hR⟩:∃ z,runsP r=z:=⟨_,rfl⟩
  have HGL:=Hd (show G=L.map fun p=>(p,jumpsOf l p) by rw[<- hG, <- hL];rfl);have HV:=Hd (show P=if (alR hh R [] G).2 ≠ 0 then ([],(alR hh R [] G).2) else normV (alR hh R [] G).1 by
   rw[HPV.out,hR,may_groups HM1.out,hG];simp)
  rw[hR] at HPL HPI;have HML2:=Hd (show ∀ p ∈ L, ∃ e ∈ l,e.f0=p from fun p hp=>(rowsOf_mem l p).1 (by rw[hL];exact hp));clear RL hL hG hR HPV
  go_wp2_with (first
   | (go_at_call 66;refine hold3 ?_)
   | ((with_reducible refine gate_dst (N:=38) rfl ?_);refine Kd.R_lit kE _ tE ?hg (N:=38) ?hd (xs:=([]:List EdP)) (inner:=[]) (ok:=fun _=>True) (okp:=fun _=>True) ?hr ?hp (fun _ hk=>hk) trivial (Below.refl _ _) (Nat.le_refl _) zq30 ?_;(case hd=>rfl);(case hg=>rfl);(case hr=>first | (go_simp;done) | (go_simp;rfl));(case hp=>exact (Reps.none _ _));intro v9 w6 ho hb hg_ hnew_;obtain⟨A9,c9,rfl⟩:=Kd.R_slice ho;have HO6:=Hd ho;have HB6:=Hd hb;clear ho hb hg_ hnew_))
  refine⟨?_⟩;refine (R1.out w6 (HB5.out.trans (HB6.out.mono HB5.out.size))).mono ?_;rintro e w7 ⟨v10,rfl,hRL,hb7⟩;obtain⟨AL,cL,rfl⟩:=Kd.R_slice hRL;have HRL:=Hd (show ROk w w7 AL cL L (Value.slice A9 0 c9).ownBlock from ⟨Kd.R_lower (Kd.R_tight rfl hRL) (Nat.zero_le _),fun k hk e=>by
   have h1:=Kd.R_base hRL k hk;have h2:=Kd.R_lt HO6.out k e.symm;omega⟩)
  have HB7:=Hd (HB5.out.trans ((HB6.out.trans (hb7.mono HB6.out.size)).mono HB5.out.size));have HO7:=Hd (Kd.R_lower (Kd.R_below HO6.out hb7) HB5.out.size);clear hRL hb7 R1 HO6 HB6 HB5;go_wp2
  go_loopw [9,11] (fun v9 v11 wr=>∃ (i:Nat) (out:List EdP) (A9:Option Addr) (c9:Nat),i<=L.length/\v11 = .int .i64 (i:Int)/\v9 = .slice A9 out.length c9/\Aside0 (Kd.R kE tE wr w.heap.size (fun _=>True) (.slice A9 out.length c9) out)/\Aside0 (Below w.heap.size w wr)/\Aside0 (ROk w wr AL cL L (Value.slice A9 out.length c9).ownBlock) /\
   Aside0 (alR hh R [] G=alR hh R out (G.drop i))/\Aside0 (out.length<=2000*i)) (fun v9 v11 wr=>L.length - (intOf v11).toNat)
  case atStart=>exact⟨0,[],A9,c9,Nat.zero_le _,rfl,rfl,⟨HO7.out⟩,⟨HB7.out⟩,⟨HRL.out⟩,⟨by rw[List.drop_zero]⟩,⟨Nat.zero_le _⟩⟩
  case round =>
   clear HO7 HB7 HRL;obtain⟨i,out,A9,c9,hi,rfl,rfl,HO,HB,HLR,HEQ,HLN⟩:=hrel;have hll:=HLL.out
   by_cases ci:i<L.length
   ·obtain⟨p,hp⟩:∃ p,L[i]=p:=⟨_,rfl⟩
    have hpi:L[i]? = some p:=by rw[List.getElem?_eq_getElem ci,hp]
    obtain⟨ad,Ax,cx,eL,x0,xl,xC⟩:=at_H (Kd.R_reads' HLR.out.1).2.2 i p hpi;cases eL;obtain⟨e2,he2,hq2⟩:=HML2.out p (List.mem_of_getElem? hpi);have HRM:=Hd (show rowMay p=true by rw[<- hq2];exact (((mayE_iff l).1 HM1.out).each e2 he2).1);have hgm:mayJ (jumpsOf l p)=true:=((mayE_iff l).1 HM1.out).jumps p;have hgl:=jumpsOf_len l p;have HST:=Hd (alR_drop hh R out G i (p,jumpsOf l p) (by rw[HGL.out,List.getElem?_map,hpi];rfl));rw[<- HEQ.out] at HST;obtain⟨g,hg⟩:∃ z,jumpsOf l p=z:=⟨_,rfl⟩
    have C1:=Hd (JL.out p Ax cx wr HB.out (Kd.C_below xC HB.out) xl);rw[hg] at C1 HST hgm hgl;have HPX:=Hd (HPI.out (p,g) HRM.out hgm);have PC:=Hd (fun (Aj:Option Addr) (cj:Nat) (W:World) (h:Below w.heap.size w W) (h3:Kd.C kJp W Aj g.length g) (h4:g.length<=cj)=>PP.out p g e2 he2 hq2 Ax Aj cx cj W h (Kd.C_below xC h) xl h3 h4);rw[HPX.out] at PC;have HTL:=Hd (show (bothV whereO g (partsR hh (p,g) [] R).1).1.length<=2000 by
     have h1:=bothV_len whereO g (partsR hh (p,g) [] R).1;have h2:=HPL.out (p,g);have:=HL.out;omega)
    obtain⟨⟨s,es⟩,hs⟩:∃ z,partsR hh (p,g) [] R=z:=⟨_,rfl⟩
    rw[hs] at PC HST HTL;obtain⟨⟨h,eh⟩,hbv⟩:∃ z,bothV whereO g s=z:=⟨_,rfl⟩
    have TC:=Hd (fun (Aj Ak:Option Addr) (cj ck:Nat) (W:World) (h1:Kd.C kJp W Aj g.length g) (h2:g.length<=cj) (h3:Kd.C kJp W Ak s.length s) (h4:s.length<=ck)=>show Calls Tryz.prog 67 #[.slice Aj g.length cj,.slice Ak s.length ck,.int .i64 2] W fun e w'=>∃ v,e = .returned (.tuple #[v,.int .i64 eh])/\Kd.R kJp tJ w' W.heap.size (fun _=>True) v h/\Below W.heap.size W w' by
     have h:=htwo_calls 2 zq30 Aj Ak cj ck g s W h1 h2 h3 h4;rw[show opW 2=whereO from rfl,hbv] at h;exact h)
    simp only at HST HTL;rw[hbv] at HST HTL;have HBV:=Hd hbv;have X0:=Hd (fun (W:World) (h:Below wr.heap.size wr W)=>pw_cell_below h x0);have HROW:=Hd (Kd.C_F k65_heap xC);have pI:(0<=(i:Int))=True:=eq_true zq4;have qI:((i:Int)<(L.length:Int))=True:=eq_true zq4;have hwi:=wrapN i zq4;clear xl xC hbv hpi hp hq2 he2 hg hs hgm hgl
    go_wp2_with (go_at_call 26;refine hold3 ?_)
    refine⟨?_⟩;refine C1.out.mono ?_;rintro e w8 ⟨vj,rfl,hRj,hb8⟩;obtain⟨Aj,cj,rfl⟩:=Kd.R_slice hRj;have HJ:=Hd (Kd.R_reads' hRj);have H8:=Hd hb8;have x8:=X0.out _ hb8;clear hRj hb8 C1 x0
    go_wp2_with (go_at_call 42;refine hold3 ?_)
    refine⟨?_⟩;refine (PC.out _ _ _ (HB.out.trans (H8.out.mono HB.out.size)) HJ.out.2.2 HJ.out.2.1).mono ?_;rintro e w9 ⟨vs,rfl,hRs,hb9⟩;obtain⟨As,cs,rfl⟩:=Kd.R_slice hRs;have H9:=Hd (H8.out.trans (hb9.mono H8.out.size));have HJ9:=Hd (And.intro HJ.out.2.1 (Kd.C_below HJ.out.2.2 hb9));have HS9:=Hd (Kd.R_reads' hRs);have HBX:=Hd (HB.out.trans (H9.out.mono HB.out.size));clear hRs hb9 PC H8 HJ x8
    by_cases hes:es=0
    rotate_left
    ·have hne:(es != 0)=true:=bne_iff_ne.mpr hes
     have HV2:=Hd (show P=([],es) by rw[HV.out,HST.out,if_pos hes,if_pos hes]);clear HV HST hes;have HV:=Hd HV2.out;go_wp2;go_ret2;rw[HV.out];exact⟨_,rfl,Kd.R_nil _ _ _ _ _,HBX.out⟩
    ·subst hes
     have HBY:=Hd HBX.out;clear HBX
     go_wp2_with (go_at_call 67;refine hold3 ?_)
     refine⟨?_⟩;refine (TC.out _ _ _ _ _ HJ9.out.2 HJ9.out.1 HS9.out.2.2 HS9.out.2.1).mono ?_;rintro e w10 ⟨vh,rfl,hRh,hb10⟩;obtain⟨Ah,ch,rfl⟩:=Kd.R_slice hRh;have H10:=Hd (H9.out.trans (hb10.mono H9.out.size));have HBX:=Hd (HB.out.trans (H10.out.mono HB.out.size));have HRH:=Hd (Kd.R_lower hRh (Nat.zero_le _));clear hRh hb10 TC H9 HJ9 HS9 HBY
     by_cases heh:eh=0
     rotate_left
     ·have hne:(eh != 0)=true:=bne_iff_ne.mpr heh
      have HV2:=Hd (show P=([],eh) by
       have h:=HST.out;rw[if_neg zq30,if_pos heh] at h;rw[HV.out,h,if_pos heh])
      clear HV HST heh;have HV:=Hd HV2.out;go_wp2;go_ret2;rw[HV.out];exact⟨_,rfl,Kd.R_nil _ _ _ _ _,HBX.out⟩
     ·subst heh
      have HEN:=Hd (show alR hh R [] G=alR hh R (putP out p h) (G.drop (i+1)) by
       rw[HST.out,if_neg zq30,if_neg zq30,putP_nil out];unfold buildP;rw[HRM.out,(bothV_val (op:=whereO) rfl HBV.out).2.2.1];rfl)
      have HLR1:=Hd (HLR.out.below H10.out);have PT:=Hd (refput_calls w.heap.size (fun _=>True) (.slice A9 out.length c9) out Ax cx p Ah ch h w10 (Kd.R_below HO.out H10.out) HBX.out.size (fun _ _=>trivial) (fun k=>k<w.heap.size)
       (fun w4 h=>HROW.out w4 (fun k hk _=>(h k hk).trans (HBX.out.block k hk))) (fun k hk=>⟨Nat.lt_of_lt_of_le hk HBX.out.size,fun e'=>by have:=Kd.R_base HO.out k e'.symm;omega⟩) HRH.out (by have:=may_len HRM.out;omega) (by have:=HLN.out;have:=HTL.out;(try simp only at this);omega))
      have x10:=X0.out _ H10.out;have HRO:=Hd (Kd.R_below HO.out H10.out);clear HST HROW
      go_wp2_with (go_at_call 68;refine hold3 ?_)
      refine⟨?_⟩;refine PT.out.mono ?_;rintro e w11 ⟨vp,rfl,hRp,hgr,hat⟩;obtain⟨Ap,cp,rfl⟩:=Kd.R_slice hRp;have HRP:=Hd hRp;have HLP:=Hd (HLR1.out.grown hgr hat);have HBP:=Hd (pw_below_grown HBX.out _ HBX.out.size hgr (fun k hk=>Kd.R_base HRO.out k hk));have HLE:=Hd (show (putP out p h).length<=2000*(i+1) by have h1:=HLN.out;have h2:=HTL.out;(try simp only at h2);rw[putP_len];omega);clear hRp hgr hat PT x10;go_wp2;go_roundw
      case rel=>exact⟨i+1,putP out p h,_,_,by omega,(by first | rw[hwi] | go_num),rfl,⟨HRP.out⟩,⟨HBP.out⟩,⟨HLP.out⟩,⟨HEN.out⟩,⟨HLE.out⟩⟩
      case measure=>first | (rw[hwi];simp[intOf];omega) | (simp[intOf];omega)
   ·obtain rfl:i=L.length:=by omega
    have HPN:=Hd (show alR hh R [] G=(out,0) by
     have hlen:G.length=L.length:=by rw[HGL.out,List.length_map]
     rw[HEQ.out,List.drop_eq_nil_of_le (by rw[hlen];exact Nat.le_refl _),alR])
    have HV2:=Hd (show P=normV out by rw[HV.out,HPN.out,if_neg zq30]);have NC:=Hd (refnorm_calls A9 c9 out wr (Kd.R_reads' HO.out).2.2 (Kd.R_reads' HO.out).2.1 (by have h1:=HLN.out;omega))
    go_wp2_with (go_at_call 58;refine hold3 ?_)
    refine⟨?_⟩;refine NC.out.mono ?_;rintro e w12 ⟨vn,rfl,hRn,hbn⟩;have HRN:=Hd (Kd.R_lower hRn HB.out.size);have HBN:=Hd (HB.out.trans (hbn.mono HB.out.size));clear hRn hbn NC;go_wp2;go_ret2;rw[HV2.out];exact⟨vn,rfl,HRN.out,HBN.out⟩
end Go.Proofs.YtmkgecapkeojaaaGreat.Eg
end
section
namespace Go.Proofs.YtmkgecapkeojaaaGreat.Eg
open PDa
open RowKit YtmkgecapkeojaaaGreatW.PrintWords Stp Rw Cmp Canon
def cc (t u:Int):Int:=if t >= 1125899906842624\/u<t then 1 else 0
def Prt (hh:List Vl->Bool × Int) (p:List Vl) (u:Int) (y:Gr):Prop:=0<valI y.2 u/\(joinV p y.1).2=0/\(hh (joinV p y.1).1).1=true/\(hh (joinV p y.1).1).2=0
theorem partner_val {hh:List Vl->Bool × Int} {x y:Gr} {b:Bool} (h:partnerV hh x y=(b,0)) (u:Int) (hx:valI x.2 u ≠ 0) (hy:0<valI y.2 u):b=true ↔ Prt hh x.1 u y:=by
 unfold partnerV at h;obtain⟨⟨g,eg⟩,hg⟩:∃ z,bothV (· * ·) x.2 y.2=z:=⟨_,rfl⟩
 rw[hg] at h;simp only at h
 by_cases e1:eg=0
 ·subst e1
  rw[if_neg (by simp)] at h;obtain⟨_,_,_,hv⟩:=bothV_val (op:=(· * ·)) rfl hg;have hv:valI g u=valI x.2 u*valI y.2 u:=hv u;have hg0:g ≠ []:=fun e=>by
   rw[e] at hv;have:valI x.2 u*valI y.2 u ≠ 0:=Int.mul_ne_zero hx (by omega);exact this hv.symm
  rw[if_neg hg0] at h
  by_cases e3:(joinV x.1 y.1).2=0
  ·rw[if_neg (by simpa using e3)] at h
   unfold Prt;rw[h];exact⟨fun hb=>⟨hy,e3,hb,rfl⟩,fun hb=>hb.2.2.1⟩
  ·rw[if_pos (by simpa using e3)] at h
   exact absurd (congrArg Prod.snd h) e3
 ·rw[if_pos (by simpa using e1)] at h
  exact absurd (congrArg Prod.snd h) e1
theorem parts_val {hh:List Vl->Bool × Int} {x:Gr} (u:Int) (hx:valI x.2 u ≠ 0):∀ (its:List Gr) (sum p:List Jp),(∀ y ∈ its,0<=valI y.2 u)->partsR hh x sum its=(p,0) ->
  (valI sum u<=valI p u)/\((∃ y ∈ its,Prt hh x.1 u y)->valI sum u<valI p u)/\((¬ ∃ y ∈ its,Prt hh x.1 u y)->valI p u=valI sum u)
 | [],sum,p,_,h=>by
  rw[partsR] at h;obtain rfl:sum=p:=congrArg Prod.fst h;exact⟨Int.le_refl _,fun ⟨y,hy,_⟩=>(by cases hy),fun _=>rfl⟩
 | y :: ys,sum,p,hn,h=>by
  rw[partsR] at h
  by_cases c:(askV hh x sum y).2=0
  ·rw[if_neg (by simpa using c)] at h
   obtain⟨i1,i2,i3⟩:=parts_val u hx ys _ p (fun z hz=>hn z (List.mem_cons_of_mem _ hz)) h;have hy:=hn y List.mem_cons_self;unfold askV at c i1 i2 i3
   by_cases c2:(partnerV hh x y).2=0/\(partnerV hh x y).1=true
   ·rw[if_pos c2] at c i1 i2 i3
    obtain⟨_,_,_,hv⟩:=bothV_val (op:=(· + ·)) rfl (Prod.ext rfl c:bothV (· + ·) sum y.2=((bothV (· + ·) sum y.2).1,0));have hv:valI (bothV (· + ·) sum y.2).1 u=valI sum u+valI y.2 u:=hv u;rw[hv] at i1 i2 i3
    by_cases y0:0<valI y.2 u
    ·exact⟨by omega,fun _=>by omega,fun hno=>absurd ⟨y,List.mem_cons_self,(partner_val (Prod.ext c2.2 c2.1:partnerV hh x y=(true,0)) u hx y0).1 rfl⟩ hno⟩
    ·refine⟨by omega,fun ⟨z,hz,hp⟩=>?_,fun hno=>?_⟩
     ·rcases List.mem_cons.1 hz with rfl | hz
      ·exact absurd hp.1 y0
      ·have:=i2 ⟨z,hz,hp⟩;omega
     ·have:=i3 (fun ⟨z,hz,hp⟩=>hno ⟨z,List.mem_cons_of_mem _ hz,hp⟩);omega
   ·rw[if_neg c2] at c i1 i2 i3
    have c:(partnerV hh x y).2=0:=c;have i1:valI sum u<=valI p u:=i1;have i2:(∃ z ∈ ys,Prt hh x.1 u z)->valI sum u<valI p u:=i2;have i3:(¬ ∃ z ∈ ys,Prt hh x.1 u z)->valI p u=valI sum u:=i3;have hno:¬ Prt hh x.1 u y:=fun hp=>c2 ⟨c,(partner_val (Prod.ext rfl c:partnerV hh x y=((partnerV hh x y).1,0)) u hx hp.1).2 hp⟩
    refine⟨i1,fun ⟨z,hz,hp⟩=>?_,fun h2=>i3 fun ⟨z,hz,hp⟩=>h2 ⟨z,List.mem_cons_of_mem _ hz,hp⟩⟩
    rcases List.mem_cons.1 hz with rfl | hz
    ·exact absurd hp hno
    ·exact i2 ⟨z,hz,hp⟩
  ·rw[if_pos (by simpa using c)] at h
   exact absurd (congrArg Prod.snd h) c
open Classical in
noncomputable def Kp (hh:List Vl->Bool × Int) (R:List Gr) (p:List Vl) (u:Int):Int:=if ∃ y ∈ R,Prt hh p u y then 0 else 1
theorem Kp_pos {hh:List Vl->Bool × Int} {R:List Gr} {p:List Vl} {u:Int} (h:∃ y ∈ R,Prt hh p u y):Kp hh R p u=0:=if_pos h
theorem Kp_neg {hh:List Vl->Bool × Int} {R:List Gr} {p:List Vl} {u:Int} (h:¬ ∃ y ∈ R,Prt hh p u y):Kp hh R p u=1:=if_neg h
theorem alR_ok (hh:List Vl->Bool × Int) (R:List Gr) (hR:∀ y ∈ R, ∀ u,0<=valI y.2 u):∀ (its:List Gr) (out:List EdP),(∀ x ∈ its,rowMay x.1=true)->(alR hh R out its).2=0 ->
  ∃ gs:List Gr,(alR hh R out its).1=out ++ flatG gs/\(∀ g ∈ gs,rowMay g.1=true/\mayJ g.2=true) /\ ∀ (φ:List Vl->Int) (u:Int),Sm (fun x=>φ x.1*valI x.2 u) gs=Sm (fun x=>φ x.1*(Kp hh R x.1 u*valI x.2 u)) its
 | [],out,_,_=>⟨[],by simp[alR,flatG],fun g hg=>(by cases hg),fun _ _=>rfl⟩
 | x :: xs,out,hm,h=>by
  rw[alR] at h ⊢
  by_cases c:(partsR hh x [] R).2=0
  ·rw[if_neg (by simpa using c)] at h ⊢
   by_cases c2:(bothV whereO x.2 (partsR hh x [] R).1).2=0
   ·rw[if_neg (by simpa using c2)] at h ⊢
    obtain⟨gs,h1,h2,h3⟩:=alR_ok hh R hR xs _ (fun y hy=>hm y (List.mem_cons_of_mem _ hy)) h;obtain⟨_,_,hj,hv⟩:=bothV_val (op:=whereO) rfl (Prod.ext rfl c2:bothV whereO x.2 (partsR hh x [] R).1=((bothV whereO x.2 (partsR hh x [] R).1).1,0));have hx:=hm x List.mem_cons_self;have hb:buildP x.1 (bothV whereO x.2 (partsR hh x [] R).1).1=putP [] x.1 (bothV whereO x.2 (partsR hh x [] R).1).1:=by unfold buildP;rw[hx,hj];rfl
    refine⟨(x.1,(bothV whereO x.2 (partsR hh x [] R).1).1) :: gs,by rw[h1,flatG_cons,hb,List.append_assoc],fun g hg=>?_,fun φ u=>?_⟩
    ·rcases List.mem_cons.1 hg with rfl | hg
     ·exact⟨hx,hj⟩
     ·exact h2 g hg
    ·rw[Sm,Sm,h3 φ u]
     congr 2
     show valI (bothV whereO x.2 (partsR hh x [] R).1).1 u=_
     rw[hv u];unfold whereO
     by_cases v0:valI x.2 u=0
     ·rw[v0];split <;> simp
     ·obtain⟨_,i2,i3⟩:=parts_val (hh:=hh) u v0 R [] (partsR hh x [] R).1 (fun y hy=>hR y hy u) (Prod.ext rfl c)
      by_cases c3:∃ y ∈ R,Prt hh x.1 u y
      ·have i4:=i2 c3
       have v1:valI ([]:List Jp) u=0:=rfl;rw[Kp_pos c3,if_pos (by omega)];simp
      ·have i4:=i3 c3
       have v1:valI ([]:List Jp) u=0:=rfl;rw[Kp_neg c3,if_neg (by omega),Int.one_mul]
   ·rw[if_pos (by simpa using c2)] at h
    exact absurd h c2
  ·rw[if_pos (by simpa using c)] at h
   exact absurd h c
theorem runs_nn {r:List EdP} (h:MayP r) (hn:NN r):∀ y ∈ runsP r, ∀ u,0<=valI y.2 u:=fun y hy u=>by
 rw[runs_groups r (isC_rows h.can)] at hy;obtain⟨q,_,rfl⟩:=List.mem_map.1 hy;exact hn q u
theorem runs_may {r:List EdP} (h:MayP r):∀ y ∈ runsP r,rowMay y.1=true:=fun y hy=>by
 obtain⟨⟨e,he,e1⟩,_⟩:=runs_mem r y hy;rw[e1];exact (h.each e he).1
theorem flatG_ok {gs:List Gr} (h:∀ g ∈ gs,rowMay g.1=true/\mayJ g.2=true):okN (flatG gs) /\ ∀ e ∈ flatG gs,e.f1<1125899906842624:=by
 have key:∀ e ∈ flatG gs,rowMay e.f0=true /\ -2<e.f1/\e.f1<1125899906842624/\fairB e.f2=true:=fun e he=>by
  obtain⟨x,hx,e1,e2⟩:=flatG_mem he;obtain⟨h1,h2⟩:=h x hx;obtain⟨p1,p2,_,p4⟩:=(mayJ_parts h2).2.1 _ e2;exact⟨by rw[e1];exact h1,p1,p2,p4⟩
 refine⟨⟨fun e he=>argE_ok (key e he).1 (key e he).2.2.2,fun e he=>?_⟩,fun e he=>(key e he).2.2.1⟩;obtain⟨_,h1,h2,_⟩:=key e he;unfold timeB;rw[DEF (by omega),DEF (by omega)];rfl
theorem alone_val {hh:List Vl->Bool × Int} {ef:Int} {l r a:List EdP} (h:aloneV hh ef l r=(a,0)):MayP l/\MayP r/\MayP a /\ ∀ (φ:List Vl->Int) (u:Int),Wt φ u a=Wt (fun p=>φ p*Kp hh (runsP r) p u) u l:=by
 unfold aloneV at h
 by_cases c:(mayE l && mayE r)=true
 ·rw[if_pos c] at h
  rw[Bool.and_eq_true,mayE_iff,mayE_iff] at c
  by_cases c1:(tableE l && tableE r)=true
  ·rw[if_pos c1] at h
   rw[Bool.and_eq_true,table_iff,table_iff] at c1
   by_cases c2:ef=0
   ·rw[if_neg (by simpa using c2)] at h
    by_cases c3:(alR hh (runsP r) [] (runsP l)).2=0
    ·rw[if_neg (by simpa using c3)] at h
     obtain⟨gs,h1,h2,h3⟩:=alR_ok hh (runsP r) (runs_nn c.2 c1.2.2) (runsP l) [] (runs_may c.1) c3;rw[h1,List.nil_append] at h;obtain⟨ok,late⟩:=flatG_ok h2;obtain⟨_,hf,e⟩:=okN_of_norm (l:=flatG gs) (by rw[h]);rw[h] at e;obtain rfl:a=flat (flatG gs):=congrArg Prod.fst e;refine⟨c.1,c.2,flat_may ok hf,fun φ u=>?_⟩;rw[Wt_J (b:=flatG gs) φ u (fun k=>?_),Wt_flatG,h3, <- Wt_runs]
     ·exact Sm_congr fun x _=>by rw[Int.mul_assoc]
     ·obtain⟨q,s⟩:=k
      rw[flat_J]
      split
      ·rfl
      ·rename_i c4
       refine (J_none _ _ fun z hz e=>c4 ?_).symm;obtain⟨y,hy,rfl⟩:=List.mem_map.1 hz;have e2:y.f1=s:=(Prod.mk.inj e).2;rw[<- e2];exact late y hy
    ·rw[if_pos (by simpa using c3)] at h
     exact absurd (congrArg Prod.snd h) c3
   ·rw[if_pos (by simpa using c2)] at h
    exact absurd (congrArg Prod.snd h) c2
  ·rw[if_neg c1] at h;cases h
 ·rw[if_neg c] at h;cases h
end Go.Proofs.YtmkgecapkeojaaaGreat.Eg
end
section
namespace Go.Proofs.YtmkgecapkeojaaaGreat.Eg
open PDa
open RowKit YtmkgecapkeojaaaGreatW.PrintWords YtmkgecapkeojaaaGreatW.PrintLast YtmkgecapkeojaaaGreatW.PrintMore
open Stp Rw
theorem alone_tab {hh:List Vl->Bool × Int} {ef:Int} {l r a:List EdP} (h:aloneV hh ef l r=(a,0)):tableE a=true:=by
 obtain⟨hl,hr,ha,hv⟩:=alone_val h;have ht:NN l:=by
  unfold aloneV at h
  by_cases c:(mayE l && mayE r)=true
  ·rw[if_pos c] at h
   by_cases c1:(tableE l && tableE r)=true
   ·rw[Bool.and_eq_true] at c1
    exact ((table_iff l).1 c1.1).2
   ·rw[if_neg c1] at h;cases h
  ·rw[if_neg c] at h;cases h
 refine (table_iff a).2 ⟨ha,fun q t=>?_⟩;rw[Wt_val,hv,Wt_congr (ψ:=fun p=>Kp hh (runsP r) q t*(if p=q then 1 else 0)) t (fun e he=>?_),Wt_mul, <- Wt_val]
 ·refine Int.mul_nonneg ?_ (ht q t)
  by_cases c:∃ y ∈ runsP r,Prt hh q t y
  ·rw[Kp_pos c];exact Int.le_refl _
  ·rw[Kp_neg c];decide
 ·by_cases e1:e.f0=q
  ·simp[e1]
  ·simp[e1]
theorem aloneV_sub (hh:List Vl->Bool × Int) (ef:Int) (l r:List EdP):(∀ e ∈ (aloneV hh ef l r).1,e.f0.length<=8)/\(aloneV hh ef l r).1.length<=4096:=by
 unfold aloneV
 repeat' split
 all_goals first | exact normV_sub _ | exact⟨by simp,by simp⟩
theorem antiAlone_walk (A0:Option Addr) (c0:Nat) (l:List EdP) (A1:Option Addr) (c1:Nat) (m:List EdP) (A2:Option Addr) (c2:Nat) (x:List Op8) (w:World) (hr0:Kd.C k41 w A0 l.length l) (hc0:l.length<=c0) (h0:wfEs l)
  (hr1:Kd.C k41 w A1 m.length m) (hc1:m.length<=c1) (h1:wfEs m) (hr2:Kd.C k68 w A2 x.length x) (hc2:x.length<=c2) (h2:wfX x) :
  Calls Tryz.prog 13 #[.slice A0 l.length c0,.slice A1 m.length c1,.slice A2 x.length c2] w fun e w'=>e = .returned (.bool true)/\Below w.heap.size w w':=by
 have hl:=okEs_wf h0;have hm:=okEs_wf h1;have hx:=okXs_wf h2;have hwl:=PDd.okEs_row hl;have hwm:=PDd.okEs_row hm;have hX:∀ (e e':EdP),e ∈ l->e' ∈ m->EvP.XOk x (e.f0 ++ e'.f0):=fun e e' he he'=>⟨(PDd.okX hl hx e he).x,fun v hv=>(List.mem_append.1 hv).elim ((PDd.okX hl hx e he).row v) ((PDd.okX hm hx e' he').row v)⟩
 have FL:=Hd (few32 A0 c0 l.length w);have FM:=Hd (fun (W:World)=>few32 A1 c1 m.length W);have LV:=Hd (fun w1=>liveA_calls w1);have PA:=Hd (fun (W:World) (h:Below w.heap.size w W)=>alone_any A0 A1 A2 c0 c1 c2 l m x W (Kd.C_below hr0 h) (Kd.C_below hr1 h) (Kd.C_below hr2 h) hc2 hl hm hx);have PB:=Hd (fun (hf:l.length<=40) (hf2:m.length<=40) (W:World) (h:Below w.heap.size w W)=>refalone_calls (EvP.holdsV x) A0 A1 A2 c0 c1 c2 l m x W (Kd.C_below hr0 h) hc0 (Kd.C_below hr1 h) hc1 (Kd.C_below hr2 h) hc2 hf hf2 hwl hwm
  (fun e e' he he' A c W1 hb hC hc=>hholds_calls x (e.f0 ++ e'.f0) (hX e e' he he') A2 A c2 c W1 (Kd.C_below hr2 (h.trans (hb.mono h.size))) hc2 hC hc))
 have hp:=aloneV_sub (EvP.holdsV x) (EvP.formV x) l m;have hta:=fun a=>alone_tab (hh:=EvP.holdsV x) (ef:=EvP.formV x) (l:=l) (r:=m) (a:=a)
 obtain⟨⟨G,g⟩,hG⟩:∃ z,aloneV (EvP.holdsV x) (EvP.formV x) l m=z:=⟨_,rfl⟩
 rw[hG] at PA PB hp hta;have HTA:=Hd (fun (h:g=0)=>hta G (by rw[h]));have SG:=Hd (fun (A A':Option Addr) (c c':Nat) (W:World) (h1:Kd.C kE W A G.length G) (h2:G.length<=c) (h3:Kd.C kE W A' G.length G) (h4:G.length<=c')=>hsame_calls A A' c c' G W h1 h2 h3 h4 (by have:=hp.2;simp only at this;omega) (fun e he=>by have:=hp.1 e he;omega));have TG:=Hd (fun (A:Option Addr) (c:Nat) (W:World) (h1:Kd.C kE W A G.length G)=>Table_calls A c G W h1 (fun e he=>by have:=hp.1 e he;omega));clear hr0 hc0 hr1 hc1 hr2 hc2 hl hm hx hwl hwm hp hG hX h0 h1 h2 hta
 by_cases hfl:l.length<=40
 rotate_left
 ·have b0:decide ((l.length:Int)<=40)=false:=DEF zq4
  rw[b0] at FL;clear hfl b0;go_enter Tryz.func13,Tryz.ntmps13
  go_wp2_with (go_at_call 39;refine hold_intro ?_)
  refine⟨?_⟩;refine FL.out.mono ?_;rintro e w1 ⟨rfl,hd1⟩;have HBC:=Hd hd1;clear hd1
  go_wp2_with (go_at_call 40;refine hold_intro ?_)
  refine⟨?_⟩;refine (LV.out w1).mono ?_;rintro e w9 ⟨rfl,hb9⟩;go_wp2;go_ret;exact⟨rfl,HBC.out.trans (hb9.mono HBC.out.size)⟩
 ·have b0:decide ((l.length:Int)<=40)=true:=DET zq4
  rw[b0] at FL;have HFL:=Hd hfl;clear b0;go_enter Tryz.func13,Tryz.ntmps13
  go_wp2_with (go_at_call 39;refine hold_intro ?_)
  refine⟨?_⟩;refine FL.out.mono ?_;rintro e w1 ⟨rfl,hd1⟩;have HB1:=Hd hd1;clear hd1 FL
  go_wp2_with (go_at_call 39;refine hold_intro ?_)
  refine⟨?_⟩;refine (FM.out w1).mono ?_;rintro e w2 ⟨rfl,hd2⟩;have HB2:=Hd (HB1.out.trans (hd2.mono HB1.out.size));clear hd2 FM
  by_cases hfm:m.length<=40
  rotate_left
  ·have b1:decide ((m.length:Int)<=40)=false:=DEF zq4
   rw[b1];clear hfm b1;have HBC:=Hd HB2.out
   go_wp2_with (go_at_call 40;refine hold_intro ?_)
   refine⟨?_⟩;refine (LV.out w2).mono ?_;rintro e w9 ⟨rfl,hb9⟩;go_wp2;go_ret;exact⟨rfl,HBC.out.trans (hb9.mono HBC.out.size)⟩
  ·have b1:decide ((m.length:Int)<=40)=true:=DET zq4
   rw[b1];have HFM:=Hd hfm;clear hfm b1 hfl
   go_wp2_with (go_at_call 44;refine hold_intro ?_)
   refine⟨?_⟩;refine (PA.out w2 HB2.out).mono ?_;rintro e w3 ⟨Aa,ca,rfl,hCa,hla,hb3⟩;have HB3:=Hd (HB2.out.trans (hb3.mono HB2.out.size));have HRA:=Hd (And.intro hCa hla);clear hCa hla hb3 PA
   go_wp2_with (go_at_call 45;refine hold_intro ?_)
   refine⟨?_⟩;refine (PB.out HFL.out HFM.out w3 HB3.out).mono ?_;rintro e w4 ⟨vb,rfl,hRb,hb4⟩;obtain⟨Ab,cb,rfl⟩:=Kd.R_slice hRb;have HB4:=Hd (HB3.out.trans (hb4.mono HB3.out.size));have HRB:=Hd (Kd.R_reads' hRb);have HRA4:=Hd (Kd.C_below HRA.out.1 hb4);clear hRb hb4 PB
   go_wp2_with (go_at_call 40;refine hold_intro ?_)
   refine⟨?_⟩;refine (LV.out w4).mono ?_;rintro e w5 ⟨rfl,hb5⟩;have HB5:=Hd (HB4.out.trans (hb5.mono HB4.out.size));have HRA5:=Hd (Kd.C_below HRA4.out hb5);have S1:=Hd (SG.out Aa Ab ca cb w5 HRA5.out HRA.out.2 (Kd.C_below HRB.out.2.2 hb5) HRB.out.2.1);clear hb5 LV SG
   go_wp2_with (go_at_call 20;refine hold_intro ?_)
   refine⟨?_⟩;refine S1.out.mono ?_;rintro e w6 ⟨rfl,hb6⟩;have HB6:=Hd (HB5.out.trans (hb6.mono HB5.out.size));have T1:=Hd (TG.out Aa ca w6 (Kd.C_below HRA5.out hb6));clear hb6 S1
   by_cases hg:g=0
   ·rw[HTA.out hg] at T1
    subst hg
    go_wp2_with (go_at_call 23;refine hold_intro ?_)
    refine⟨?_⟩;refine T1.out.mono ?_;rintro e w7 ⟨rfl,hb7⟩;have HB7:=Hd (HB6.out.trans (hb7.mono HB6.out.size));clear hb7;go_wp2;go_ret;exact⟨rfl,HB7.out⟩
   ·have hne:(g != 0)=true:=bne_iff_ne.mpr hg
    clear hg T1;go_wp2;go_ret;exact⟨rfl,HB6.out⟩
end Go.Proofs.YtmkgecapkeojaaaGreat.Eg
end
