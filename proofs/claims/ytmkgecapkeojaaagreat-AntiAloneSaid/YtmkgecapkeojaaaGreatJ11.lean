/- Texts of this claim, put together by a program: PlN, Flat, Table, Both, Pl9, Pl9b, Pl10, PlD, Told2, PlR, Concat, SumsP, TicksP, Mul, Join, Part. -/
import Derived.Test.YtmkgecapkeojaaaGreatJ10
import Derived.Deep.DeepCutAuto
set_option linter.unusedVariables false
set_option linter.unusedSimpArgs false
set_option maxHeartbeats 8000000
set_option maxRecDepth 100000
section
namespace Go.Proofs.YtmkgecapkeojaaaGreat.Eg
open PDa
open RowKit YtmkgecapkeojaaaGreatW.PrintWords Stp Rw Cmp
instance decRow:DecidableEq (List Vl):=fun a b=>decidable_of_iff (eqR a b=true) (eqR_iff a b)
theorem canonJ_perm {f g:List Jp} (h:f.Perm g):canonJ f=canonJ g:=by
 unfold canonJ
 congr 1
 refine Canon.canon_congr ltI_ord fun k=>Canon.J_perm k ?_
 exact (h.map pJ).filter _
theorem normJ_perm {f g:List Jp} (h:f.Perm g):normJ f=normJ g:=by
 unfold normJ;rw[h.any_eq,h.any_eq];rw[canonJ_perm h]
def rowIns (r:List Vl):List (List Vl)->List (List Vl)
 | []=>[r]
 | x :: xs=>if rC x r<0 then x :: rowIns r xs else if x=r then x :: xs else r :: x :: xs
def rowsOf (l:List EdP):List (List Vl):=(l.map (·.f0)).foldr rowIns []
theorem rowIns_mem (r:List Vl):∀ (l:List (List Vl)) (z:List Vl),z ∈ rowIns r l ↔ z=r\/z ∈ l
 | [],z=>by simp[rowIns]
 | x :: xs,z=>by
  rw[rowIns]
  split
  ·rw[List.mem_cons,rowIns_mem r xs z,List.mem_cons]
   constructor
   ·rintro (h | h | h)
    ·exact .inr (.inl h)
    ·exact .inl h
    ·exact .inr (.inr h)
   ·rintro (h | h | h)
    ·exact .inr (.inl h)
    ·exact .inl h
    ·exact .inr (.inr h)
  ·split
   ·rename_i h
    rw[<- h,List.mem_cons]
    constructor
    ·exact fun h=>.inr h
    ·rintro (h | h)
     ·exact .inl h
     ·exact h
   ·rw[List.mem_cons]
abbrev Inc (l:List (List Vl)):Prop:=l.Pairwise fun a b=>rC a b<0
theorem rowIns_inc (r:List Vl):∀ (l:List (List Vl)),Inc l->Inc (rowIns r l)
 | [],_=>by simp[rowIns,Inc]
 | x :: xs,h=>by
  have h1:=List.pairwise_cons.1 h;rw[rowIns]
  split
  ·rename_i hx
   refine List.pairwise_cons.2 ⟨fun z hz=>?_,rowIns_inc r xs h1.2⟩
   rcases (rowIns_mem r xs z).1 hz with e | e
   ·rw[e];exact hx
   ·exact h1.1 z e
  ·split
   ·exact h
   ·rename_i hx hne
    have hlt:rC r x<0:=by
     have a1:=rC_is.anti r x;have a2:=rC_is.zero x r
     by_cases e:rC x r=0
     ·exact absurd (a2.1 e) hne
     ·exact a1.2 (by omega)
    refine List.pairwise_cons.2 ⟨fun z hz=>?_,h⟩
    rcases List.mem_cons.1 hz with e | e
    ·rw[e];exact hlt
    ·exact rC_is.trans _ _ _ hlt (h1.1 z e)
theorem rowsOf_mem (l:List EdP) (z:List Vl):z ∈ rowsOf l ↔ ∃ e ∈ l,e.f0=z:=by
 unfold rowsOf
 induction l with
 | nil=>simp
 | cons e es ih =>
  rw[List.map_cons,List.foldr_cons,rowIns_mem,ih]
  constructor
  ·rintro (h | ⟨e',he,h⟩)
   ·exact⟨e,List.mem_cons_self,h.symm⟩
   ·exact⟨e',List.mem_cons_of_mem _ he,h⟩
  ·rintro⟨e',he,h⟩
   rcases List.mem_cons.1 he with rfl | he
   ·exact .inl h.symm
   ·exact .inr ⟨e',he,h⟩
theorem rowsOf_inc (l:List EdP):Inc (rowsOf l):=by
 unfold rowsOf
 induction l with
 | nil=>exact List.Pairwise.nil
 | cons e es ih=>rw[List.map_cons,List.foldr_cons];exact rowIns_inc _ _ ih
theorem inc_uniq:∀ (a b:List (List Vl)),Inc a->Inc b->(∀ z,z ∈ a ↔ z ∈ b)->a=b
 | [],[],_,_,_=>rfl
 | [],y :: ys,_,_,h=>by have:=(h y).2 List.mem_cons_self;cases this
 | x :: xs,[],_,_,h=>by have:=(h x).1 List.mem_cons_self;cases this
 | x :: xs,y :: ys,ha,hb,h=>by
  have a1:=List.pairwise_cons.1 ha;have b1:=List.pairwise_cons.1 hb;have irr:∀ z:List Vl, ¬ rC z z<0:=fun z hz=>by rw[rC_is.self] at hz;omega
  have hxy:x=y:=by
   rcases List.mem_cons.1 ((h x).1 List.mem_cons_self) with e | e
   ·exact e
   ·rcases List.mem_cons.1 ((h y).2 List.mem_cons_self) with e2 | e2
    ·exact e2.symm
    ·exact absurd (rC_is.trans _ _ _ (b1.1 x e) (a1.1 y e2)) (irr y)
  subst hxy
  congr 1
  refine inc_uniq xs ys a1.2 b1.2 fun z=>?_
  constructor
  ·intro hz
   rcases List.mem_cons.1 ((h z).1 (List.mem_cons_of_mem _ hz)) with e | e
   ·subst e;exact absurd (a1.1 z hz) (irr z)
   ·exact e
  ·intro hz
   rcases List.mem_cons.1 ((h z).2 (List.mem_cons_of_mem _ hz)) with e | e
   ·subst e;exact absurd (b1.1 z hz) (irr z)
   ·exact e
theorem rowsOf_perm {a b:List EdP} (h:a.Perm b):rowsOf a=rowsOf b :=
 inc_uniq _ _ (rowsOf_inc a) (rowsOf_inc b) fun z=>by
  rw[rowsOf_mem,rowsOf_mem];exact⟨fun ⟨e,he,hz⟩=>⟨e,h.mem_iff.1 he,hz⟩,fun ⟨e,he,hz⟩=>⟨e,h.mem_iff.2 he,hz⟩⟩
theorem jumpsOf_perm {a b:List EdP} (h:a.Perm b) (r:List Vl):(jumpsOf a r).Perm (jumpsOf b r):=(h.filter _).map _
theorem jumpsOf_cons (e:EdP) (es:List EdP) (r:List Vl):jumpsOf (e :: es) r=(if e.f0=r then [jmpE e] else []) ++ jumpsOf es r:=by
 unfold jumpsOf;rw[List.filter_cons]
 by_cases h:e.f0=r
 ·rw[if_pos ((eqR_iff _ _).2 h),if_pos h];rfl
 ·rw[if_neg (fun h2=>h ((eqR_iff _ _).1 h2)),if_neg h];rfl
theorem jumpsOf_none (es:List EdP) (r:List Vl) (h:∀ e ∈ es,e.f0 ≠ r):jumpsOf es r=[]:=by
 unfold jumpsOf;rw[List.map_eq_nil_iff,List.filter_eq_nil_iff];exact fun e he h2=>h e he ((eqR_iff _ _).1 h2)
theorem runAt_groups:∀ (es:List EdP) (r:List Vl) (js:List Jp),es.Pairwise (fun a b=>rC a.f0 b.f0<=0)->(∀ e ∈ es,rC r e.f0<=0) ->
  Inc ((runAt r js es).map (·.1))/\(∀ x ∈ runAt r js es,rC r x.1<=0/\x.2=(if x.1=r then js else []) ++ jumpsOf es x.1)/\(∀ z,z ∈ (runAt r js es).map (·.1) ↔ z=r \/ ∃ e ∈ es,e.f0=z)
 | [],r,js,_,_=>by
  refine⟨by simp[runAt,Inc],fun x hx=>?_,fun z=>by simp[runAt]⟩;rw[runAt,List.mem_singleton] at hx;subst hx;exact⟨by rw[rC_is.self];omega,by simp[jumpsOf]⟩
 | e :: es,r,js,hp,hr=>by
  have h1:=List.pairwise_cons.1 hp;rw[runAt]
  by_cases he:e.f0=r
  ·rw[if_pos ((eqR_iff _ _).2 he)]
   obtain⟨i1,i2,i3⟩:=runAt_groups es r (js ++ [jmpE e]) h1.2 (fun z hz=>hr z (List.mem_cons_of_mem _ hz));refine⟨i1,fun x hx=>⟨(i2 x hx).1,?_⟩,fun z=>?_⟩
   ·rw[(i2 x hx).2,jumpsOf_cons,he]
    by_cases hxr:x.1=r
    ·rw[if_pos hxr,if_pos hxr,if_pos hxr.symm,List.append_assoc]
    ·rw[if_neg hxr,if_neg hxr,if_neg (fun h=>hxr h.symm)];simp only[List.nil_append]
   ·rw[i3]
    constructor
    ·rintro (h | ⟨e',h2,h3⟩)
     ·exact .inl h
     ·exact .inr ⟨e',List.mem_cons_of_mem _ h2,h3⟩
    ·rintro (h | ⟨e',h2,h3⟩)
     ·exact .inl h
     ·rcases List.mem_cons.1 h2 with rfl | h2
      ·exact .inl (by rw[<- h3,he])
      ·exact .inr ⟨e',h2,h3⟩
  ·rw[if_neg (fun h=>he ((eqR_iff _ _).1 h))]
   have hlt:rC r e.f0<0:=by
    have h2:=hr e List.mem_cons_self;have h3:=rC_is.zero r e.f0
    by_cases h4:rC r e.f0=0
    ·exact absurd (h3.1 h4).symm he
    ·omega
   have hle:∀ z,rC e.f0 z<=0->rC r z<0:=fun z hz=>by
    by_cases h5:rC e.f0 z=0
    ·rw[<- (rC_is.zero _ _).1 h5];exact hlt
    ·exact rC_is.trans _ _ _ hlt (by omega)
   have hne:∀ z,rC e.f0 z<=0->z ≠ r:=fun z hz h6=>by
    have:=hle z hz;rw[h6,rC_is.self] at this;omega
   obtain⟨i1,i2,i3⟩:=runAt_groups es e.f0 [jmpE e] h1.2 h1.1;have hje:jumpsOf (e :: es) r=[]:=jumpsOf_none _ _ fun z hz=>by
    rcases List.mem_cons.1 hz with rfl | hz
    ·exact he
    ·exact hne _ (h1.1 z hz)
   refine⟨?_,fun x hx=>?_,fun z=>?_⟩
   ·rw[List.map_cons]
    refine List.pairwise_cons.2 ⟨fun z hz=>?_,i1⟩;obtain⟨x,hx,rfl⟩:=List.mem_map.1 hz;exact hle _ (i2 x hx).1
   ·rcases List.mem_cons.1 hx with rfl | hx
    ·exact⟨by rw[rC_is.self];omega,by rw[if_pos rfl,hje,List.append_nil]⟩
    ·have h7:=i2 x hx
     refine⟨by have:=hle _ h7.1;omega,?_⟩;rw[if_neg (hne _ h7.1),List.nil_append,jumpsOf_cons,h7.2]
     by_cases h8:x.1=e.f0
     ·rw[if_pos h8,if_pos h8.symm]
     ·rw[if_neg h8,if_neg (fun h=>h8 h.symm)]
   ·rw[List.map_cons,List.mem_cons,i3]
    constructor
    ·rintro (h | h | ⟨e',h2,h3⟩)
     ·exact .inl h
     ·exact .inr ⟨e,List.mem_cons_self,h.symm⟩
     ·exact .inr ⟨e',List.mem_cons_of_mem _ h2,h3⟩
    ·rintro (h | ⟨e',h2,h3⟩)
     ·exact .inl h
     ·rcases List.mem_cons.1 h2 with rfl | h2
      ·exact .inr (.inl h3.symm)
      ·exact .inr (.inr ⟨e',h2,h3⟩)
def groups (l:List EdP):List (List Vl × List Jp):=(rowsOf l).map fun r=>(r,jumpsOf l r)
theorem runs_groups (s:List EdP) (h:s.Pairwise (fun a b=>rC a.f0 b.f0<=0)):runsP s=groups s:=by
 cases s with
 | nil=>rfl
 | cons e es =>
  have h1:=List.pairwise_cons.1 h;obtain⟨i1,i2,i3⟩:=runAt_groups es e.f0 [jmpE e] h1.2 h1.1;have hrows:(runsP (e :: es)).map (·.1)=rowsOf (e :: es):=by
   refine inc_uniq _ _ i1 (rowsOf_inc _) fun z=>?_
   rw[runsP,i3,rowsOf_mem]
   constructor
   ·rintro (h | ⟨e',h2,h3⟩)
    ·exact⟨e,List.mem_cons_self,h.symm⟩
    ·exact⟨e',List.mem_cons_of_mem _ h2,h3⟩
   ·rintro⟨e',h2,h3⟩
    rcases List.mem_cons.1 h2 with rfl | h2
    ·exact .inl h3.symm
    ·exact .inr ⟨e',h2,h3⟩
  unfold groups;rw[<- hrows,List.map_map];refine (List.map_id _).symm.trans (List.map_congr_left fun x hx=>?_);rw[runsP] at hx;have h7:=(i2 x hx).2;refine Prod.ext rfl ?_
  show x.2=jumpsOf (e :: es) x.1
  rw[h7,jumpsOf_cons]
  by_cases h8:x.1=e.f0
  ·rw[if_pos h8,if_pos h8.symm]
  ·rw[if_neg h8,if_neg (fun h=>h8 h.symm)]
theorem mapR_perm (a b:List EdP) (h:a.Perm b):∀ (rows:List (List Vl)) (out:List EdP),mapR normJ out (rows.map fun r=>(r,jumpsOf a r))=mapR normJ out (rows.map fun r=>(r,jumpsOf b r))
 | [],_=>rfl
 | r :: rows,out=>by
  rw[List.map_cons,List.map_cons,mapR,mapR];simp only;rw[normJ_perm (jumpsOf_perm h r)]
  split
  ·rfl
  ·split
   ·rfl
   ·exact mapR_perm a b h rows _
def normV (l:List EdP):List EdP × Int:=if l.any argE=true then ([],2) else if l.any (fun x=>timeB x.f1)=true then ([],13) else mapR normJ [] (groups l)
theorem sortedE_rows {s:List EdP} (h:SortedE s):s.Pairwise (fun a b=>rC a.f0 b.f0<=0):=by
 refine h.imp fun {a b} hk=>?_
 have h1:=keyC_is.not_lt.1 hk;unfold keyC pairC keyE at h1;simp only at h1
 split at h1
 ·rename_i e;omega
 ·exact h1
theorem norm_is {l:List EdP} {r:List EdP × Int} (h:NormIs l r):r=normV l:=by
 unfold normV
 rcases h with ⟨h1,h2⟩ | ⟨h1,h2,h3⟩ | ⟨h1,h2,s,hp,hs,h3⟩
 ·rw[if_pos h1,h2]
 ·rw[if_neg (by rw[h1];decide),if_pos h2,h3]
 ·rw[if_neg (by rw[h1];decide),if_neg (by rw[h2];decide),h3]
  unfold mapP;rw[runs_groups s (sortedE_rows hs)];unfold groups;rw[rowsOf_perm hp];exact mapR_perm s l hp _ _
end Go.Proofs.YtmkgecapkeojaaaGreat.Eg
end
section
namespace Go.Proofs.YtmkgecapkeojaaaGreat.Eg
open PDa
open RowKit YtmkgecapkeojaaaGreatW.PrintWords Stp Rw Cmp Canon
abbrev KK:=List Vl × Int
def pE (e:EdP):KK × Int:=((e.f0,e.f1),e.f2)
theorem pE_inj {a b:EdP} (h:pE a=pE b):a=b:=by
 obtain⟨a1,a2,a3⟩:=a;obtain⟨b1,b2,b3⟩:=b;simp only[pE,Prod.mk.injEq] at h;obtain⟨⟨rfl,rfl⟩,rfl⟩:=h
 rfl
def ltK (a b:KK):Bool:=decide (keyC a b<0)
theorem ltK_ord:KOrd ltK:=keyC_is.kord
abbrev JE (l:List EdP) (k:KK):Int:=J (l.map pE) k
abbrev IsC (l:List EdP):Prop:=IsCanon ltK (l.map pE)
theorem isC_uniq {a b:List EdP} (ha:IsC a) (hb:IsC b) (h:∀ k,JE a k=JE b k):a=b :=
 (List.map_inj_right fun _ _=>pE_inj).1 (canon_uniq ltK_ord _ _ ha hb h)
theorem keyC_row {a b:KK} (h:rC a.1 b.1<0):keyC a b<0:=by
 unfold keyC pairC;rw[if_neg (by omega)];exact h
theorem keyC_at {r:List Vl} {s t:Int} (h:s<t):keyC (r,s) (r,t)<0:=by
 unfold keyC pairC;rw[if_pos (rC_is.self r)]
 show icmp s t<0
 unfold icmp;rw[if_pos h];decide
theorem jumpsOf_append (a b:List EdP) (r:List Vl):jumpsOf (a ++ b) r=jumpsOf a r ++ jumpsOf b r:=by simp[jumpsOf]
theorem jumpsOf_put (s r:List Vl) (f:List Jp):jumpsOf (putP [] s f) r=if s=r then f else []:=by
 unfold jumpsOf putP;rw[List.nil_append]
 by_cases h:s=r
 ·rw[if_pos h,List.filter_eq_self.2 (by intro e he;obtain⟨j,_,rfl⟩:=List.mem_map.1 he;exact (eqR_iff _ _).2 h),List.map_map]
  exact (List.map_congr_left fun j _=>rfl).trans (List.map_id _)
 ·rw[if_neg h,List.filter_eq_nil_iff.2 (by intro e he;obtain⟨j,_,rfl⟩:=List.mem_map.1 he;exact fun h2=>h ((eqR_iff _ _).1 h2))];rfl
theorem J_split (r:List Vl) (t:Int):∀ l:List EdP,JE l (r,t)=J ((jumpsOf l r).map pJ) t
 | []=>rfl
 | e :: es=>by
  show J (pE e :: es.map pE) (r,t)=_
  rw[J_cons,jumpsOf_cons,List.map_append,J_append, <- J_split r t es]
  congr 1
  by_cases h:e.f0=r
  ·rw[if_pos h]
   show (if (e.f0,e.f1)=(r,t) then e.f2 else 0)=J [pJ (jmpE e)] t
   rw[J_cons,J_nil,h]
   show _=(if e.f1=t then e.f2 else 0)+0
   by_cases h2:e.f1=t
   ·rw[if_pos (by rw[h2]),if_pos h2];omega
   ·rw[if_neg (fun h3=>h2 (Prod.mk.inj h3).2),if_neg h2];rfl
  ·rw[if_neg h]
   show (if (e.f0,e.f1)=(r,t) then e.f2 else 0)=_
   rw[if_neg (fun h3=>h (Prod.mk.inj h3).1)];rfl
theorem canonJ_J (f:List Jp) (t:Int):J ((canonJ f).map pJ) t=if t<1125899906842624 then J (f.map pJ) t else 0:=by
 unfold canonJ;rw[List.map_map,show (pJ ∘ uJ)=id from rfl,List.map_id,J_canon,J_filterK (fun k=>decide (k<1125899906842624))];simp
theorem canonJ_is (f:List Jp):IsCanon ltI ((canonJ f).map pJ):=by
 unfold canonJ;rw[List.map_map,show (pJ ∘ uJ)=id from rfl,List.map_id];exact canon_is ltI_ord _
def flatG (gs:List (List Vl × List Jp)):List EdP:=gs.flatMap fun x=>putP [] x.1 x.2
theorem flatG_cons (x:List Vl × List Jp) (gs:List (List Vl × List Jp)):flatG (x :: gs)=putP [] x.1 x.2 ++ flatG gs:=by simp[flatG]
theorem flatG_mem {gs:List (List Vl × List Jp)} {e:EdP} (h:e ∈ flatG gs):∃ x ∈ gs,e.f0=x.1/\jmpE e ∈ x.2:=by
 unfold flatG putP at h;obtain⟨x,hx,he⟩:=List.mem_flatMap.1 h;rw[List.nil_append] at he;obtain⟨j,hj,rfl⟩:=List.mem_map.1 he;exact⟨x,hx,rfl,hj⟩
theorem flatG_is:∀ gs:List (List Vl × List Jp),Inc (gs.map (·.1))->(∀ x ∈ gs,IsCanon ltI (x.2.map pJ))->IsC (flatG gs)
 | [],_,_=>⟨List.Pairwise.nil,fun x hx=>by cases hx⟩
 | x :: gs,h,hc=>by
  rw[List.map_cons] at h;have h1:=List.pairwise_cons.1 h;have ih:=flatG_is gs h1.2 fun y hy=>hc y (List.mem_cons_of_mem _ hy)
  obtain⟨c1,c2⟩:=hc x List.mem_cons_self;unfold IsC;rw[flatG_cons,List.map_append];have hp:(putP [] x.1 x.2).map pE=x.2.map fun j=>((x.1,j.f0),j.f1):=by
   unfold putP;rw[List.nil_append,List.map_map];rfl
  rw[hp];refine⟨List.pairwise_append.2 ⟨?_,ih.1,fun a ha b hb=>?_⟩,fun y hy=>?_⟩
  ·rw[List.pairwise_map] at c1 ⊢
   exact c1.imp fun {a b} hab=>DET (keyC_at (ODT hab))
  ·obtain⟨j,hj,rfl⟩:=List.mem_map.1 ha
   obtain⟨e,he,rfl⟩:=List.mem_map.1 hb;obtain⟨y,hy,e1,_⟩:=flatG_mem he;refine DET (keyC_row ?_)
   show rC x.1 e.f0<0
   rw[e1];exact h1.1 _ (List.mem_map.2 ⟨y,hy,rfl⟩)
  ·rcases List.mem_append.1 hy with hy | hy
   ·obtain⟨j,hj,rfl⟩:=List.mem_map.1 hy
    exact c2 (pJ j) (List.mem_map.2 ⟨j,hj,rfl⟩)
   ·exact ih.2 y hy
theorem jumpsOf_flatG (g:List Vl->List Jp) (r:List Vl):∀ rows:List (List Vl),Inc rows->jumpsOf (flatG (rows.map fun s=>(s,g s))) r=if r ∈ rows then g r else []
 | [],_=>by simp[flatG,jumpsOf]
 | s :: rows,h=>by
  have h1:=List.pairwise_cons.1 h;rw[List.map_cons,flatG_cons,jumpsOf_append,jumpsOf_put,jumpsOf_flatG g r rows h1.2]
  by_cases e:s=r
  ·subst e
   have hn:¬ s ∈ rows:=fun hm=>by have:=h1.1 s hm;rw[rC_is.self] at this;omega
   simp[hn]
  ·rw[if_neg e]
   simp[show ¬ r=s from fun h=>e h.symm]
def flat (l:List EdP):List EdP:=flatG ((rowsOf l).map fun r=>(r,canonJ (jumpsOf l r)))
theorem canonJ_nil:canonJ []=[]:=rfl
theorem jumpsOf_flat (l:List EdP) (r:List Vl):jumpsOf (flat l) r=canonJ (jumpsOf l r):=by
 unfold flat;rw[jumpsOf_flatG (fun r=>canonJ (jumpsOf l r)) r _ (rowsOf_inc l)]
 split
 ·rfl
 ·rename_i h
  rw[jumpsOf_none l r (fun e he e1=>h ((rowsOf_mem l r).2 ⟨e,he,e1⟩)),canonJ_nil]
theorem flat_is (l:List EdP):IsC (flat l):=by
 refine flatG_is _ ?_ fun x hx=>?_
 ·rw[List.map_map]
  exact (List.map_id _).symm ▸ rowsOf_inc l
 ·obtain⟨r,_,rfl⟩:=List.mem_map.1 hx
  exact canonJ_is _
theorem flat_J (l:List EdP) (r:List Vl) (t:Int):JE (flat l) (r,t)=if t<1125899906842624 then JE l (r,t) else 0:=by
 rw[J_split,jumpsOf_flat,canonJ_J, <- J_split]
theorem flat_row {l:List EdP} {e:EdP} (h:e ∈ flat l):∃ e' ∈ l,e'.f0=e.f0:=by
 obtain⟨x,hx,e1,_⟩:=flatG_mem h;obtain⟨r,hr,rfl⟩:=List.mem_map.1 hx;rw[e1];exact (rowsOf_mem l r).1 hr
def okN (l:List EdP):Prop:=(∀ e ∈ l,argE e=false) /\ ∀ e ∈ l,timeB e.f1=false
theorem okN_fair {x:EdP} (h:argE x=false):rowMay x.f0=true/\fairB x.f2=true:=by
 unfold argE at h;rw[Bool.or_eq_false_iff,Bool.or_eq_false_iff] at h;obtain⟨h1,h2,h3⟩:=h;refine⟨by simpa using h1,?_⟩;unfold fairB;rw[DET (show x.f2<=1048576 by have:=of_decide_eq_false h2;omega),DET (show -1048576<=x.f2 by have:=of_decide_eq_false h3;omega)];rfl
theorem argE_ok {x:EdP} (h1:rowMay x.f0=true) (h2:fairB x.f2=true):argE x=false:=by
 unfold fairB at h2;rw[Bool.and_eq_true] at h2;have a:=ODT h2.1;have b:=ODT h2.2;unfold argE;rw[h1,DEF (by omega),DEF (by omega)];rfl
theorem normJ_ok {l:List EdP} (h:okN l) (r:List Vl):normJ (jumpsOf l r)=toldJ (canonJ (jumpsOf l r)):=by
 unfold normJ;have h1:(jumpsOf l r).any (fun x => !fairB x.f1)=false:=by
  rw[List.any_eq_false];intro x hx;obtain⟨e,he,rfl⟩:=List.mem_map.1 hx;rw[show fairB (jmpE e).f1=true from (okN_fair (h.1 e (List.mem_filter.1 he).1)).2];decide
 have h2:(jumpsOf l r).any (fun x=>timeB x.f0)=false:=by
  rw[List.any_eq_false];intro x hx;obtain⟨e,he,rfl⟩:=List.mem_map.1 hx;rw[show timeB (jmpE e).f0=false from h.2 e (List.mem_filter.1 he).1];decide
 rw[if_neg (by rw[h1];decide),if_neg (by rw[h2];decide)]
def Fit (F:List EdP):Prop:=(∀ r,mayJ (jumpsOf F r)=true)/\F.length<=4096
theorem mapR_flat:∀ (gs:List (List Vl × List Jp)) (out:List EdP),(∀ x ∈ gs,normJ x.2=toldJ (canonJ x.2))->out.length<=4096 ->
  mapR normJ out gs=if ((gs.all fun x=>mayJ (canonJ x.2)) && decide ((out ++ flatG (gs.map fun x=>(x.1,canonJ x.2))).length<=4096))=true then (out ++ flatG (gs.map fun x=>(x.1,canonJ x.2)),0) else ([],7)
 | [],out,_,h=>by
  rw[mapR];simp[flatG,h]
 | x :: gs,out,hx,h=>by
  have h1:=hx x List.mem_cons_self;rw[mapR,h1,List.map_cons,flatG_cons,List.all_cons, <- List.append_assoc];unfold toldJ;cases hm:mayJ (canonJ x.2) with
  | false=>simp
  | true =>
   have hp:putP out x.1 (canonJ x.2)=out ++ putP [] x.1 (canonJ x.2):=by simp[putP]
   simp only[if_true,hp]
   by_cases hl:4096<(out ++ putP [] x.1 (canonJ x.2)).length
   ·rw[if_neg (by simp),if_pos hl,if_neg]
    simp only[Bool.true_and,Bool.and_eq_true,decide_eq_true_eq,List.length_append] at hl ⊢;rintro⟨_,h2⟩;omega
   ·rw[if_neg (by simp),if_neg hl,mapR_flat gs _ (fun y hy=>hx y (List.mem_cons_of_mem _ hy)) (by omega),Bool.true_and]
theorem normV_flat {l:List EdP} (h:okN l):(Fit (flat l)/\normV l=(flat l,0))\/(¬ Fit (flat l)/\normV l=([],7)):=by
 have e1:normV l=mapR normJ [] (groups l):=by
  unfold normV;rw[if_neg (by rw[Bool.not_eq_true,List.any_eq_false];intro e he;rw[h.1 e he];decide),if_neg (by rw[Bool.not_eq_true,List.any_eq_false];intro e he;rw[h.2 e he];decide)]
 rw[e1,mapR_flat (groups l) [] (fun x hx=>by obtain⟨r,_,rfl⟩:=List.mem_map.1 hx;exact normJ_ok h r) (by simp)];have e2:(groups l).map (fun x=>(x.1,canonJ x.2))=(rowsOf l).map fun r=>(r,canonJ (jumpsOf l r)):=by unfold groups;rw[List.map_map];rfl
 rw[e2,List.nil_append,show flatG ((rowsOf l).map fun r=>(r,canonJ (jumpsOf l r)))=flat l from rfl];have e3:((groups l).all fun x=>mayJ (canonJ x.2))=true ↔ ∀ r,mayJ (jumpsOf (flat l) r)=true:=by
  rw[List.all_eq_true]
  constructor
  ·intro ha r
   rw[jumpsOf_flat]
   by_cases hr:r ∈ rowsOf l
   ·exact ha (r,jumpsOf l r) (List.mem_map.2 ⟨r,hr,rfl⟩)
   ·rw[jumpsOf_none l r (fun e he e1=>hr ((rowsOf_mem l r).2 ⟨e,he,e1⟩))];rfl
  ·intro ha x hx
   obtain⟨r,_,rfl⟩:=List.mem_map.1 hx;have:=ha r;rw[jumpsOf_flat] at this;exact this
 by_cases c:Fit (flat l)
 ·exact .inl ⟨c,if_pos (by rw[Bool.and_eq_true];exact⟨e3.2 c.1,DET c.2⟩)⟩
 ·refine .inr ⟨c,if_neg fun h2=>c ?_⟩
  rw[Bool.and_eq_true] at h2;exact⟨e3.1 h2.1,ODT h2.2⟩
theorem mayL_canon:∀ (f:List Jp) (a:Int),mayL a f=true->(∀ j ∈ f,a<j.f0/\j.f0<1125899906842624/\j.f1 ≠ 0/\fairB j.f1=true)/\f.Pairwise (fun x y=>x.f0<y.f0)
 | [],_,_=>⟨fun j hj=>(by cases hj),List.Pairwise.nil⟩
 | x :: xs,a,h=>by
  rw[mayL] at h;simp only[Bool.and_eq_true,decide_eq_true_eq] at h;obtain⟨⟨⟨⟨h1,h2⟩,h3⟩,h4⟩,h5⟩:=h;obtain⟨i1,i2⟩:=mayL_canon xs x.f0 h5;refine⟨fun j hj=>?_,List.pairwise_cons.2 ⟨fun y hy=>(i1 y hy).1,i2⟩⟩
  rcases List.mem_cons.1 hj with rfl | hj
  ·exact⟨h1,h2,h3,h4⟩
  ·obtain⟨k1,k2⟩:=i1 j hj
   exact⟨by omega,k2⟩
theorem mayJ_parts {f:List Jp} (h:mayJ f=true):f.length<=1024/\(∀ j ∈ f,-2<j.f0/\j.f0<1125899906842624/\j.f1 ≠ 0/\fairB j.f1=true)/\f.Pairwise (fun x y=>x.f0<y.f0):=by
 unfold mayJ at h;rw[Bool.and_eq_true] at h;exact⟨ODT h.1,mayL_canon f _ h.2⟩
theorem mayJ_canon {f:List Jp} (h:mayJ f=true):IsCanon ltI (f.map pJ):=by
 obtain⟨_,h1,h2⟩:=mayJ_parts h;refine⟨?_,fun x hx=>?_⟩
 ·rw[List.pairwise_map];exact h2.imp fun hh=>DET hh
 ·obtain⟨j,hj,rfl⟩:=List.mem_map.1 hx
  exact (h1 j hj).2.2.1
theorem mayL_of:∀ (f:List Jp) (a:Int),(∀ j ∈ f,a<j.f0/\j.f0<1125899906842624/\j.f1 ≠ 0/\fairB j.f1=true)->f.Pairwise (fun x y=>x.f0<y.f0)->mayL a f=true
 | [],_,_,_=>rfl
 | x :: xs,a,h,hp=>by
  have h1:=List.pairwise_cons.1 hp;obtain⟨a1,a2,a3,a4⟩:=h x List.mem_cons_self;rw[mayL,DET a1,DET a2,DET a3,a4,mayL_of xs x.f0 (fun j hj=>⟨h1.1 j hj,(h j (List.mem_cons_of_mem _ hj)).2⟩) h1.2]
  rfl
theorem runAt_flat:∀ (es:List EdP) (r:List Vl) (js:List Jp),flatG (runAt r js es)=putP [] r js ++ es
 | [],r,js=>by rw[runAt,flatG_cons];simp[flatG]
 | e :: es,r,js=>by
  rw[runAt]
  split
  ·rename_i he
   rw[runAt_flat es];obtain rfl:e.f0=r:=(eqR_iff _ _).1 he;simp[putP,jmpE]
  ·rw[flatG_cons,runAt_flat es]
   simp[putP,jmpE]
theorem runs_flat (l:List EdP):flatG (runsP l)=l:=by
 cases l with
 | nil=>rfl
 | cons e es=>rw[runsP,runAt_flat];rfl
theorem eachR_inc (p:List Jp->Bool):∀ (its:List (List Vl × List Jp)) (last:Option (List Vl)),(∀ y,last=some y->rowMay y=true)->eachR p last its=true->Inc (its.map (·.1)) /\ ∀ y,last=some y -> ∀ x ∈ its,rC y x.1<0
 | [],_,_,_=>⟨List.Pairwise.nil,fun y _ x hx=>by cases hx⟩
 | z :: its,last,hl,h=>by
  rw[eachR,Bool.and_eq_true,Bool.and_eq_true,Bool.and_eq_true] at h;obtain⟨⟨⟨h1,h2⟩,_⟩,h3⟩:=h;obtain⟨i1,i2⟩:=eachR_inc p its (some z.1) (fun y hy=>by cases hy;exact h1) h3;refine⟨?_,fun y hy x hx=>?_⟩
  ·rw[List.map_cons]
   refine List.pairwise_cons.2 ⟨fun y hy=>?_,i1⟩;obtain⟨x,hx,rfl⟩:=List.mem_map.1 hy;exact i2 _ rfl x hx
  ·subst hy
   have hyz:rC y z.1<0:=by
    rw[<- cmpR_rC (hl y rfl) h1];exact ODT h2
   rcases List.mem_cons.1 hx with rfl | hx
   ·exact hyz
   ·exact rC_is.trans _ _ _ hyz (i2 _ rfl x hx)
theorem eachR_of (p:List Jp->Bool):∀ (its:List (List Vl × List Jp)) (last:Option (List Vl)),(∀ x ∈ its,rowMay x.1=true/\p x.2=true)->Inc (its.map (·.1))->(∀ y,last=some y->rowMay y=true /\ ∀ x ∈ its,rC y x.1<0)->eachR p last its=true
 | [],_,_,_,_=>rfl
 | z :: its,last,h,hi,hl=>by
  rw[List.map_cons] at hi;have h1:=List.pairwise_cons.1 hi;obtain⟨a1,a2⟩:=h z List.mem_cons_self;rw[eachR,a1,a2,eachR_of p its (some z.1) (fun x hx=>h x (List.mem_cons_of_mem _ hx)) h1.2 (fun y hy=>by cases hy;exact⟨a1,fun x hx=>h1.1 _ (List.mem_map.2 ⟨x,hx,rfl⟩)⟩)];have:lastB last z.1=true:=by
   unfold lastB;cases last with
   | none=>rfl
   | some y=>exact DET (by rw[cmpR_rC (hl y rfl).1 a1];exact (hl y rfl).2 z List.mem_cons_self)
  rw[this];rfl
theorem eachR_al (p:List Jp->Bool):∀ (its:List (List Vl × List Jp)) (last:Option (List Vl)),eachR p last its=true -> ∀ x ∈ its,rowMay x.1=true/\p x.2=true
 | [],_,_,x,hx=>by cases hx
 | y :: ys,last,h,x,hx=>by
  rw[eachR,Bool.and_eq_true,Bool.and_eq_true,Bool.and_eq_true] at h
  rcases List.mem_cons.1 hx with rfl | hx
  ·exact⟨h.1.1.1,h.1.2⟩
  ·exact eachR_al p ys _ h.2 x hx
structure MayP (l:List EdP):Prop where
 can:IsC l
 each:∀ e ∈ l,rowMay e.f0=true /\ -2<e.f1/\e.f1<1125899906842624/\fairB e.f2=true
 few:∀ r,(jumpsOf l r).length<=1024
 len:l.length<=4096
theorem isC_rows {l:List EdP} (h:IsC l):l.Pairwise (fun a b=>rC a.f0 b.f0<=0):=by
 have h1:=h.1;rw[List.pairwise_map] at h1;refine h1.imp fun {a b} hk=>?_
 have h2:keyC (pE a).1 (pE b).1<0:=ODT hk;unfold keyC pairC pE at h2;simp only at h2
 split at h2
 ·rename_i e;omega
 ·omega
theorem isC_jumps {l:List EdP} (h:IsC l) (r:List Vl):(jumpsOf l r).Pairwise (fun x y=>x.f0<y.f0):=by
 have h1:=h.1;rw[List.pairwise_map] at h1;unfold jumpsOf;rw[List.pairwise_map,List.pairwise_filter];refine h1.imp fun {a b} hk ha hb=>?_
 have ea:=(eqR_iff _ _).1 ha;have eb:=(eqR_iff _ _).1 hb;have h2:keyC (pE a).1 (pE b).1<0:=ODT hk;unfold keyC pairC pE at h2;simp only at h2;rw[ea,eb,if_pos (rC_is.self r)] at h2;unfold icmp at h2
 show a.f1<b.f1
 split at h2
 ·assumption
 ·split at h2 <;> omega
theorem MayP.jumps {l:List EdP} (h:MayP l) (r:List Vl):mayJ (jumpsOf l r)=true:=by
 unfold mayJ;rw[DET (h.few r),mayL_of _ _ (fun j hj=>?_) (isC_jumps h.can r)]
 ·rfl
 ·obtain⟨e,he,rfl⟩:=List.mem_map.1 hj
  have he:=(List.mem_filter.1 he).1;obtain⟨_,h2,h3,h4⟩:=h.each e he;exact⟨h2,h3,h.can.2 (pE e) (List.mem_map.2 ⟨e,he,rfl⟩),h4⟩
theorem mayE_iff (l:List EdP):mayE l=true ↔ MayP l:=by
 constructor
 ·intro h
  unfold mayE eachP at h;rw[Bool.and_eq_true] at h;have ha:=eachR_al _ _ _ h.2;have hi:=(eachR_inc _ _ none (fun y hy=>by cases hy) h.2).1;have hc:IsC l:=by
   rw[<- runs_flat l];exact flatG_is _ hi fun x hx=>mayJ_canon (ha x hx).2
  have hg:=runs_groups l (isC_rows hc);have hj:∀ r,mayJ (jumpsOf l r)=true:=fun r=>by
   by_cases hr:r ∈ rowsOf l
   ·exact (ha (r,jumpsOf l r) (by rw[hg];exact List.mem_map.2 ⟨r,hr,rfl⟩)).2
   ·rw[jumpsOf_none l r (fun e he e1=>hr ((rowsOf_mem l r).2 ⟨e,he,e1⟩))];rfl
  refine⟨hc,fun e he=>?_,fun r=>(mayJ_parts (hj r)).1,ODT h.1⟩;have hm:jmpE e ∈ jumpsOf l e.f0:=List.mem_map.2 ⟨e,List.mem_filter.2 ⟨he,eqR_refl _⟩,rfl⟩;obtain⟨k1,k2,_,k4⟩:=(mayJ_parts (hj e.f0)).2.1 _ hm;exact⟨(ha (e.f0,jumpsOf l e.f0) (by rw[hg];exact List.mem_map.2 ⟨e.f0,(rowsOf_mem l _).2 ⟨e,he,rfl⟩,rfl⟩)).1,k1,k2,k4⟩
 ·intro h
  unfold mayE eachP;rw[DET h.len,Bool.true_and,runs_groups l (isC_rows h.can)];refine eachR_of _ _ _ (fun x hx=>?_) ?_ (fun y hy=>by cases hy)
  ·obtain⟨r,hr,rfl⟩:=List.mem_map.1 hx
   obtain⟨e,he,e1⟩:=(rowsOf_mem l r).1 hr;refine⟨?_,h.jumps r⟩
   show rowMay r=true
   rw[<- e1];exact (h.each e he).1
  ·unfold groups
   rw[List.map_map];exact (List.map_id _).symm ▸ rowsOf_inc l
theorem MayP.okN {l:List EdP} (h:MayP l):okN l:=⟨fun e he=>argE_ok (h.each e he).1 (h.each e he).2.2.2,fun e he=>by
 obtain⟨_,h1,h2,_⟩:=h.each e he;unfold timeB;rw[DEF (by omega),DEF (by omega)];rfl⟩
theorem MayP.fit {l:List EdP} (h:MayP l):Fit l:=⟨h.jumps,h.len⟩
theorem MayP.late {l:List EdP} (h:MayP l) (r:List Vl) (t:Int) (ht:¬ t<1125899906842624):JE l (r,t)=0:=by
 refine J_none _ _ fun x hx e=>ht ?_
 obtain⟨y,hy,rfl⟩:=List.mem_map.1 hx;have:=(h.each y hy).2.2.1;rw[show y.f1=t from (Prod.mk.inj e).2] at this;exact this
theorem MayP.flat {l:List EdP} (h:MayP l):flat l=l:=isC_uniq (flat_is l) h.can fun k=>by
 rw[flat_J l k.1 k.2]
 split
 ·rfl
 ·rename_i c;exact (h.late k.1 k.2 c).symm
theorem MayP.norm {l:List EdP} (h:MayP l):normV l=(l,0):=by
 rcases normV_flat h.okN with ⟨_,h2⟩ | ⟨h1,_⟩
 ·rw[h2,h.flat]
 ·rw[h.flat] at h1;exact absurd h.fit h1
theorem flat_may {l:List EdP} (h:okN l) (hf:Fit (flat l)):MayP (flat l):=by
 refine⟨flat_is l,fun e he=>?_,fun r=>(mayJ_parts (hf.1 r)).1,hf.2⟩;obtain⟨e',he',e1⟩:=flat_row he;have hm:jmpE e ∈ jumpsOf (flat l) e.f0:=List.mem_map.2 ⟨e,List.mem_filter.2 ⟨he,eqR_refl _⟩,rfl⟩;obtain⟨k1,k2,_,k4⟩:=(mayJ_parts (hf.1 e.f0)).2.1 _ hm;exact⟨by rw[<- e1];exact (okN_fair (h.1 e' he')).1,k1,k2,k4⟩
theorem okN_of_norm {l:List EdP} (h:(normV l).2=0):okN l/\Fit (flat l)/\normV l=(flat l,0):=by
 have hok:okN l:=by
  unfold normV at h
  split at h
  ·cases h
  ·split at h
   ·cases h
   ·rename_i h1 h2
    rw[Bool.not_eq_true,List.any_eq_false] at h1 h2;exact⟨fun e he=>by simpa using h1 e he,fun e he=>by simpa using h2 e he⟩
 rcases normV_flat hok with ⟨h1,h2⟩ | ⟨h1,h2⟩
 ·exact⟨hok,h1,h2⟩
 ·rw[h2] at h;cases h
end Go.Proofs.YtmkgecapkeojaaaGreat.Eg
end
section
namespace Go.Proofs.YtmkgecapkeojaaaGreat.Eg
open PDa
open RowKit YtmkgecapkeojaaaGreatW.PrintWords YtmkgecapkeojaaaGreatW.PrintLast YtmkgecapkeojaaaGreatW.PrintMore
open SortM Run Stp Rw
def leastL (v m:Int):List Jp->Int
 | []=>m
 | j :: js=>leastL (v+j.f1) (if v+j.f1<m then v+j.f1 else m) js
def leastJ (f:List Jp):Int:=if mayJ f=true then (match f with | []=>0 | j :: js=>leastL 0 (if j.f0 = -1 then j.f1 else 0) (j :: js)) else 0
theorem okFair {n:Int} (h:fairB n=true) : -1048576<=n/\n<=1048576:=by
 unfold fairB at h;rw[Bool.and_eq_true] at h;exact⟨ODT h.2,ODT h.1⟩
theorem rdJt (l:List Jp) (i:Nat) (h:i<l.length):rd_T85 l (i:Int)=l[i]:=by
 unfold rd_T85;rw[Int.toNat_natCast,List.getD_eq_getElem?_getD,List.getElem?_eq_getElem h]
 rfl
theorem Least_calls (A:Option Addr) (c:Nat) (f:List Jp) (w:World) (hr:Kd.C kJ w A f.length f) (hc:f.length<=c) :
  Calls Tryz.prog 62 #[.slice A f.length c] w fun e w'=>e = .returned (.int .i64 (leastJ f))/\Below w.heap.size w w':=by
 have M:=Hd (may_any A c f w hr hc);have HR:=Hd hr;clear hr hc;cases hm:mayJ f with
 | false =>
  rw[hm] at M;have HL:=Hd (show leastJ f=0 by unfold leastJ;rw[if_neg (by rw[hm];decide)]);clear hm;go_enter Tryz.func62,Tryz.ntmps62
  go_wp2_with fail
  refine M.out.mono ?_;rintro e w1 ⟨rfl,hb⟩;go_wp2;go_ret;exact⟨by rw[HL.out];rfl,hb⟩
 | true =>
  rw[hm] at M;obtain⟨p1,p2,_⟩:=mayJ_parts hm;have HF:=Hd (fun j (hj:j ∈ f)=>(okFair (p2 j hj).2.2.2));clear p2
  by_cases h0:f.length=0
  ·have HL:=Hd (show leastJ f=0 by
    unfold leastJ;rw[if_pos hm]
    have:f=[]:=List.eq_nil_of_length_eq_zero h0;subst this;rfl)
   have q0:((f.length:Int) == 0)=true:=by simpa using h0
   clear hm h0;go_enter Tryz.func62,Tryz.ntmps62
   go_wp2_with fail
   refine M.out.mono ?_;rintro e w1 ⟨rfl,hb⟩;go_wp2;go_ret;exact⟨by rw[HL.out];rfl,hb⟩
  ·have q0:((f.length:Int) == 0)=false:=by simpa using h0
   have h1:0<f.length:=by omega
   obtain⟨X,hX⟩:∃ X,f[0]'h1=X:=⟨_,rfl⟩
   have hf:f=X :: f.drop 1:=by rw[<- hX,List.getElem_cons_drop,List.drop_zero]
   have HL:=Hd (show leastJ f=leastL 0 (if X.f0 = -1 then X.f1 else 0) f by
    unfold leastJ;rw[if_pos hm]
    rw[hf])
   obtain⟨m0,hm0⟩:∃ m0:Int,(if X.f0 = -1 then X.f1 else 0)=m0:=⟨_,rfl⟩
   rw[hm0] at HL;obtain⟨R,hR⟩:∃ R,leastJ f=R:=⟨_,rfl⟩
   rw[hR] at HL ⊢;have hXb:=HF.out X (by rw[hf];exact List.mem_cons_self);have hb0 : -1048576<=m0/\m0<=1048576:=by
    rw[<- hm0];split <;> omega
   have HX:=Hd hX;clear hm h0 hR hf hX;go_enter Tryz.func62,Tryz.ntmps62
   go_wp2_with fail
   refine M.out.mono ?_;rintro e w1 ⟨rfl,hb⟩;have HB1:=Hd hb;obtain⟨ad,e1,x0,x1⟩:=at_T85 (Kd.C_below HR.out hb) ((0:Nat):Int) zq4 zq4;rw[rdJt f 0 h1,HX.out] at x0 x1;rw[Int.toNat_natCast,Nat.zero_mul] at x0 x1;cases e1;have ez:ad.add 0=ad:=by unfold Addr.add;split <;> simp_all
   rw[ez] at x0 x1;clear hb ez;have q1:(0:Int)<(f.length:Int):=by omega
   have HM0:=Hd hm0
   go_upto_if 19 with (refine SortJ.stopC (n:=19) ?_;intro J hJ)
   refine Met.intro (hJ _ _ ?_)
   go_cut [4] (fun v4 wx=>v4 = .int .i64 m0/\w1=wx)
   case first =>
    clear hJ
    by_cases cx:X.f0 = -1
    ·have qx:(X.f0 == -1)=true:=by simpa using cx
     have e2:=Hd (show X.f1=m0 by rw[<- hm0,if_pos cx]);clear cx hm0
     go_wp2_with fail
     go_meet
     exact⟨by rw[e2.out],rfl⟩
    ·have qx:(X.f0 == -1)=false:=by simpa using cx
     have e2:=Hd (show 0=m0 by rw[<- hm0,if_neg cx]);clear cx hm0
     go_wp2_with fail
     go_meet
     exact⟨by rw[e2.out],rfl⟩
   case rest =>
   obtain⟨rfl,rfl⟩:=hcut;clear hm0 x0 x1 q1 hXb hJ;go_wp2
   go_loopw [26,3,4] (fun v26 v3 v4 wr=>∃ (i:Nat) (v m:Int),i<=f.length/\v26 = .int .i64 (i:Int)/\v3 = .int .i64 v/\v4 = .int .i64 m /\ -1048576*(i:Int)<=v/\v<=1048576*(i:Int)/\Aside0 (leastL v m (f.drop i)=R)/\Aside0 (Below w.heap.size w wr)) (fun v26 v3 v4 wr=>f.length - (intOf v26).toNat)
   case atStart=>exact⟨0,0,m0,by omega,rfl,rfl,rfl,by omega,by omega,⟨by rw[List.drop_zero];exact HL.out.symm⟩,⟨HB1.out⟩⟩
   case round =>
    obtain⟨i,v,m,hi,rfl,rfl,rfl,v1,v2,HE,HB⟩:=hrel
    by_cases c:i<f.length
    ·obtain⟨Y,hY⟩:∃ Y,f[i]=Y:=⟨_,rfl⟩
     obtain⟨ad,e1,x0,x1⟩:=at_T85 (Kd.C_below HR.out HB.out) (i:Int) zq4 zq4;rw[Int.toNat_natCast,rdJt f i c,hY] at x0 x1;cases e1;have hYb:=HF.out Y (by rw[<- hY];exact List.getElem_mem c);have HE2:=Hd (show leastL (v+Y.f1) (if v+Y.f1<m then v+Y.f1 else m) (f.drop (i+1))=R by rw[<- HE.out,List.drop_eq_getElem_cons c,hY,leastL]);have qs:v+Y.f1<=1048576*((i+1:Nat):Int):=by omega
     have qs2 : -1048576*((i+1:Nat):Int)<=v+Y.f1:=by omega
     have qi:(i:Int)<(f.length:Int):=by omega
     have qb:v+Y.f1<=9223372036854775807:=by omega
     have qc : -9223372036854775808<=v+Y.f1:=by omega
     clear hY HE;go_wp2;go_roundw
     case rel=>exact⟨i+1,_,_,by omega,by go_num,rfl,rfl,qs2,qs,⟨HE2.out⟩,⟨below_alloc HB.out _⟩⟩
     case measure=>simp[intOf];omega
    ·obtain rfl:i=f.length:=by omega
     obtain rfl:m=R:=by have:=HE.out;rwa [List.drop_length,leastL] at this
     go_wp2;go_ret;exact⟨rfl,HB.out⟩
def tabJ (f:List Jp):Bool:=mayJ f && decide (leastJ f >= 0)
theorem table1_calls (A:Option Addr) (c:Nat) (f:List Jp) (w:World) (hr:Kd.C kJ w A f.length f) (hc:f.length<=c) :
  Calls Tryz.prog 60 #[.slice A f.length c] w fun e w'=>e = .returned (.bool (tabJ f))/\Below w.heap.size w w':=by
 have M:=Hd (may_any A c f w hr hc);have L:=Hd (fun (w1:World) (h:Below w.heap.size w w1)=>Least_calls A c f w1 (Kd.C_below hr h) hc);clear hr hc;obtain⟨z,hz⟩:∃ z,leastJ f=z:=⟨_,rfl⟩
 obtain⟨b,hb⟩:∃ b,mayJ f=b:=⟨_,rfl⟩
 rw[show tabJ f=(b && decide (z >= 0)) by unfold tabJ;rw[hz,hb]];rw[hz] at L;rw[hb] at M;clear hz hb;cases b with
 | false =>
  go_enter Tryz.func60,Tryz.ntmps60
  go_wp2_with fail
  refine M.out.mono ?_;rintro e w1 ⟨rfl,hb⟩;go_wp2;go_ret;exact⟨rfl,hb⟩
 | true =>
  go_enter Tryz.func60,Tryz.ntmps60
  go_wp2_with fail
  refine M.out.mono ?_;rintro e w1 ⟨rfl,hb⟩;have HB:=Hd hb;clear hb
  go_wp2_with fail
  refine (L.out w1 HB.out).mono ?_;rintro e w2 ⟨rfl,hb⟩;have HB2:=Hd (HB.out.trans (hb.mono HB.out.size));clear hb;go_wp2;go_ret;exact⟨by simp,HB2.out⟩
def tableE (l:List EdP):Bool:=eachP tabJ l
theorem Table_calls (A0:Option Addr) (c0:Nat) (l:List EdP) (w:World) (hr0:Kd.C kE w A0 l.length l) (hrow:∀ e ∈ l,e.f0.length<=4398046511104) :
  Calls Tryz.prog 23 #[.slice A0 l.length c0] w fun e w'=>e = .returned (.bool (tableE l))/\Below w.heap.size w w':=by
 have EC:=Hd (each_calls tabJ 60 A0 c0 l w hr0 hrow (enters_of Tryz.func60 zq17 rfl) (fun A c f W1 _ h=>table1_calls A c f W1 (Kd.R_reads' h).2.2 (Kd.R_reads' h).2.1));clear hr0 hrow;go_enter Tryz.func23,Tryz.ntmps23
 go_wp2_with ((with_reducible refine EC.out.mono ?_);rintro e w' ⟨rfl,hb⟩)
 go_ret;exact⟨rfl,hb⟩
def hdA (f:List Jp):Int:=match f with | []=>1125899906842624 | x :: _=>x.f0
def mAt (f g:List Jp):Int:=match g with | []=>hdA f | y :: _=>if y.f0<hdA f then y.f0 else hdA f
def popA (f:List Jp) (t:Int):Int:=match f with | []=>0 | x :: _=>if x.f0=t then x.f1 else 0
def popL (f:List Jp) (t:Int):List Jp:=match f with | []=>[] | x :: xs=>if x.f0=t then xs else x :: xs
theorem popL_le (f:List Jp) (t:Int):(popL f t).length<=f.length:=by
 unfold popL
 split
 ·exact Nat.le_refl _
 ·split <;> simp
theorem popL_sub {f:List Jp} {t:Int} {j:Jp} (h:j ∈ popL f t):j ∈ f:=by
 unfold popL at h
 split at h
 ·exact h
 ·split at h
  ·exact List.mem_cons_of_mem _ h
  ·exact h
abbrev In50 (f:List Jp):Prop := ∀ j ∈ f,j.f0<1125899906842624 /\ -1048576<=j.f1/\j.f1<=1048576
theorem pop_lt {f g:List Jp} (hg:In50 g) (h:0<f.length+g.length):(popL f (mAt f g)).length+(popL g (mAt f g)).length<f.length+g.length:=by
 have h1:=popL_le f (mAt f g);have h2:=popL_le g (mAt f g);have key:(popL f (mAt f g)).length<f.length\/(popL g (mAt f g)).length<g.length:=by
  unfold mAt;cases g with
  | nil =>
   cases f with
   | nil=>simp at h
   | cons x xs=>left;simp[popL,hdA]
  | cons y ys =>
   simp only
   split
   ·right;simp[popL]
   ·rename_i c
    cases f with
    | nil=>exact absurd (hg y List.mem_cons_self).1 c
    | cons x xs=>left;simp[popL,hdA]
 omega
def stJ (t v was:Int):List Jp:=if v ≠ was then [⟨t,v - was⟩] else []
def bothL (op:Int->Int->Int):Nat->List Jp->List Jp->Int->Int->Int->List Jp
 | 0,_,_,_,_,_=>[]
 | k+1,f,g,a,b,was=>if f.length+g.length=0 then [] else
   stJ (mAt f g) (op (a+popA f (mAt f g)) (b+popA g (mAt f g))) was ++ bothL op k (popL f (mAt f g)) (popL g (mAt f g)) (a+popA f (mAt f g)) (b+popA g (mAt f g)) (op (a+popA f (mAt f g)) (b+popA g (mAt f g)))
theorem popA_bd {f:List Jp} (h:In50 f) (t a M:Int) (h1:a+1048576*(f.length:Int)<=M) (h2 : -M<=a - 1048576*(f.length:Int)):a+popA f t+1048576*((popL f t).length:Int)<=M /\ -M<=a+popA f t - 1048576*((popL f t).length:Int):=by
 unfold popA popL
 split
 ·simp at h1 h2 ⊢;omega
 ·rename_i x xs
  have hx:=h x List.mem_cons_self;simp only[List.length_cons] at h1 h2
  split
  ·omega
  ·simp only[List.length_cons];omega
def bothV (op:Int->Int->Int) (f g:List Jp):List Jp × Int:=if (mayJ f && mayJ g)=true then toldJ (bothL op (f.length+g.length) f g 0 0 0) else ([],2)
theorem add0 (ad:Addr):ad.add 0=ad:=if_pos rfl
theorem at0 {w:World} {A:Option Addr} {n:Nat} {x:Jp} {xs:List Jp} (h:Kd.C kJ w A n (x :: xs)) (hn:0<n):∃ ad,A=some ad/\w.cell? ad=some (.int .i64 x.f0)/\w.cell? ⟨ad.block,ad.off+1,none⟩=some (.int .i64 x.f1):=by
 obtain⟨ad,e1,x0,x1⟩:=at_T85 h ((0:Nat):Int) zq4 zq4;rw[rdJt (x :: xs) 0 zq30,Int.toNat_natCast,Nat.zero_mul,add0] at x0 x1;exact⟨ad,e1,x0,x1⟩
theorem drop1 {w:World} {ad:Addr} {n d:Nat} {x:Jp} {xs:List Jp} (h:Kd.C kJ w (some ad) n (x :: xs)) (hn:xs.length+1=n) (hd:n<=d) :
  ∃ A2,(∀ W:World,(Instr.slice 43 (.slice (some ad) n d) (some (.int .i64 1)) none none).run Tryz.prog W = .ok (.slice A2 (n - 1) (d - 1)) W)/\Kd.C kJ w A2 (n - 1) xs:=by
 refine⟨if d=1 then some ad else (some ad).map (·.add (1*2)),fun W=>?_,?_⟩
 ·exact cut_from (P:=Tryz.prog) 43 85 .i64 zq17 rfl 2 rfl (some ad) n d 1 zq4 zq4 W
 ·subst hn
  exact Kd.C_drop (k:=kJ) (c:=d) (m:=1) h zq30 hd
theorem both_calls (op:Int->Int->Int) (M:Int) (hM:M<=2305843009213693952) (fn:Nat) (A0 A1:Option Addr) (c0 c1:Nat) (f g:List Jp) (w:World) (hr0:Kd.C kJ w A0 f.length f) (hc0:f.length<=c0) (hr1:Kd.C kJ w A1 g.length g) (hc1:g.length<=c1)
  (hfn:∀ args w,(callFunc fn args).run Tryz.prog w = .ok (.enter fn args) w)
  (hop:∀ (a b:Int) (w1:World),-1073741824<=a->a<=1073741824 -> -1073741824<=b->b<=1073741824->Calls Tryz.prog fn #[.int .i64 a,.int .i64 b] w1 fun e w'=>e = .returned (.int .i64 (op a b))/\w1=w')
  (hob:∀ a b:Int,-1073741824<=a->a<=1073741824 -> -1073741824<=b->b<=1073741824 -> -M<=op a b/\op a b<=M) :
  Calls Tryz.prog 123 #[.slice A0 f.length c0,.slice A1 g.length c1,.func (.func fn) #[] #[]] w fun e w'=>∃ v,e = .returned (.tuple #[v,.int .i64 (bothV op f g).2])/\Kd.R kJ tJ w' w.heap.size (fun _=>True) v (bothV op f g).1/\Below w.heap.size w w':=by
 have hu43:=Tryz.underlying43;have MF:=Hd (may_any A0 c0 f w hr0 hc0);have MG:=Hd (fun (w1:World) (h:Below w.heap.size w w1)=>may_any A1 c1 g w1 (Kd.C_below hr1 h) hc1);have HR0:=Hd hr0;have HR1:=Hd hr1;have HC0:=Hd hc0;have HC1:=Hd hc1;have HOP:=Hd hop;have HOB:=Hd hob;have HMM:=Hd hM;clear hr0 hr1 hc0 hc1 hop hob hM;cases hmf:mayJ f with
 | false =>
  rw[hmf] at MF;have HV:=Hd (show bothV op f g=([],2) by unfold bothV;rw[hmf];rfl);clear hmf;go_enter Tryz.func123,Tryz.ntmps123
  go_wp2_with fail
  refine MF.out.mono ?_;rintro e w1 ⟨rfl,hb⟩;go_wp2;go_ret2;exact⟨.slice none 0 0,by rw[HV.out];rfl,by rw[HV.out];exact Kd.R_nil _ _ _ _ _,hb⟩
 | true =>
 rw[hmf] at MF;cases hmg:mayJ g with
 | false =>
  rw[hmg] at MG;have HV:=Hd (show bothV op f g=([],2) by unfold bothV;rw[hmg,Bool.and_false];rfl);clear hmf hmg;go_enter Tryz.func123,Tryz.ntmps123
  go_wp2_with fail
  refine MF.out.mono ?_;rintro e w1 ⟨rfl,hb⟩;have HB:=Hd hb;clear hb
  go_wp2_with fail
  refine (MG.out w1 HB.out).mono ?_;rintro e w2 ⟨rfl,hb⟩;have HB2:=Hd (HB.out.trans (hb.mono HB.out.size));clear hb;go_wp2;go_ret2;exact⟨.slice none 0 0,by rw[HV.out];rfl,by rw[HV.out];exact Kd.R_nil _ _ _ _ _,HB2.out⟩
 | true =>
 rw[hmg] at MG;have HV:=Hd (show bothV op f g=toldJ (bothL op (f.length+g.length) f g 0 0 0) by unfold bothV;rw[hmf,hmg];rfl);obtain⟨lf,pf,_⟩:=mayJ_parts hmf;obtain⟨lg,pg,_⟩:=mayJ_parts hmg;have IF:=Hd (show In50 f from fun j hj=>⟨(pf j hj).2.1,okFair (pf j hj).2.2.2⟩);have IG:=Hd (show In50 g from fun j hj=>⟨(pg j hj).2.1,okFair (pg j hj).2.2.2⟩);obtain⟨R,hR⟩:∃ R,bothL op (f.length+g.length) f g 0 0 0=R:=⟨_,rfl⟩
 rw[hR] at HV;obtain⟨nf,hnf⟩:∃ n,f.length=n:=⟨_,rfl⟩
 obtain⟨ng,hng⟩:∃ n,g.length=n:=⟨_,rfl⟩
 rw[hnf,hng] at hR;have HR:=Hd hR;rw[hnf] at HR0 HC0 lf MF ⊢;rw[hng] at HR1 HC1 lg MG ⊢;have HNF:=Hd hnf;have HNG:=Hd hng;clear hmf hmg pf pg hR hnf hng;go_enter Tryz.func123,Tryz.ntmps123
 go_wp2_with fail
 refine MF.out.mono ?_;rintro e w1 ⟨rfl,hb⟩;have HB:=Hd hb;clear hb MF
 go_wp2_with fail
 refine (MG.out w1 HB.out).mono ?_;rintro e w2 ⟨rfl,hb⟩;have HB2:=Hd (HB.out.trans (hb.mono HB.out.size));clear hb MG HB
 go_wp2_with (first | ((with_reducible refine gate_dst (N:=22) rfl ?_);refine Kd.R_lit kJ _ 85 ?hg (N:=22) ?hd (xs:=([]:List Jp)) (inner:=[]) (ok:=fun _=>True) (okp:=fun _=>True) ?hr ?hp (fun _ hk=>hk) trivial (Below.refl _ _) (Nat.le_refl _) zq30 ?_;(case hd=>rfl);(case hg=>rfl);(case hr=>first | (go_simp;done) | (go_simp;rfl));(case hp=>exact (Reps.none _ _));intro v22 w3 ho3 hb3 hg_ hnew_;have HO3:=Hd (Kd.R_lower ho3 HB2.out.size);have HB3:=Hd (HB2.out.trans (hb3.mono HB2.out.size));clear hg_ hnew_ hb3 ho3))
 go_loopg [0,1,8,9,10,11] (nf+ng) (fun kq u0 u1 u8 u9 u10 u11 wr=>∃ (f' g':List Jp) (out:List Jp) (a b was:Int) (B0 B1:Option Addr) (d0 d1 n0 n1:Nat),u0 = .slice B0 n0 d0/\u1 = .slice B1 n1 d1/\u9 = .int .i64 a/\u10 = .int .i64 b/\u11 = .int .i64 was /\
  n0+n1<=kq/\n0<=1024/\n1<=1024/\a+1048576*(n0:Int)<=1073741824 /\ -1073741824<=a - 1048576*(n0:Int)/\b+1048576*(n1:Int)<=1073741824 /\ -1073741824<=b - 1048576*(n1:Int) /\
  Aside0 (f'.length=n0/\g'.length=n1/\In50 f'/\In50 g' /\ -M<=was/\was<=M/\out.length+kq<=nf+ng/\n0<=d0/\n1<=d1)/\Aside0 (out ++ bothL op kq f' g' a b was=R)/\Aside0 (Kd.C kJ w B0 n0 f')/\Aside0 (Kd.C kJ w B1 n1 g')/\Aside0 (Kd.R kJ tJ wr w.heap.size (fun _=>True) u8 out)/\Aside0 (Below w.heap.size w wr))
 case atStart=>exact⟨f,g,[],0,0,0,A0,A1,c0,c1,nf,ng,rfl,rfl,rfl,rfl,rfl,Nat.le_refl _,lf,lg,by omega,by omega,by omega,by omega,⟨⟨HNF.out,HNG.out,IF.out,IG.out,by have:=HOB.out 0 0;omega,by have:=HOB.out 0 0;omega,by simp,HC0.out,HC1.out⟩⟩,⟨HR.out⟩,⟨HR0.out⟩,⟨HR1.out⟩,⟨HO3.out⟩,⟨HB3.out⟩⟩
 case round =>
  obtain⟨f',g',out,a,b,was,B0,B1,d0,d1,n0,n1,rfl,rfl,rfl,rfl,rfl,hk,l0,l1,a1,a2,b1,b2,HS,HE,HF,HG,HO,HB⟩:=hrel
  by_cases hz:n0+n1=0
  ·have q0:decide (0<n0)=false:=DEF zq4
   have q1:decide (0<n1)=false:=DEF zq4;have HRO:=Hd (show out=R by
    have h:=HE.out;have hs:=HS.out;cases gk with
    | zero=>rw[bothL,List.append_nil] at h;exact h
    | succ k1=>rw[bothL,if_pos zq4,List.append_nil] at h;exact h)
   have TC:=Hd (step_told.calls (out.length+1) (fun _=>True) _ out _ _ w wr HB.out HO.out (told_f out));rw[HRO.out, <- HV.out] at TC;clear HE HF HG hz
   go_wp2_with (go_at_call 115;(with_reducible refine TC.out.mono ?_);rintro e w5 ⟨v5,rfl,hR,hb5,_⟩;have HR5:=Hd hR;have HB5:=Hd hb5;clear hR hb5)
   go_ret2;exact⟨v5,rfl,Kd.R_mono HR5.out (fun _ _=>trivial),HB5.out⟩
  ·cases gk with
   | zero=>exact absurd hk zq4
   | succ k1 =>
   obtain⟨z,hz2⟩:∃ z,mAt f' g'=z:=⟨_,rfl⟩
   obtain⟨z1,hz1⟩:∃ z1,hdA f'=z1:=⟨_,rfl⟩
   have HZ:=Hd hz2;have HZ1:=Hd hz1;have HWW:=Hd (Below.refl wr.heap.size wr);have HSF:=Hd (show f'.length=n0/\n0<=d0 from ⟨HS.out.1,HS.out.2.2.2.2.2.2.2.1⟩);have HSG:=Hd (show g'.length=n1/\n1<=d1 from ⟨HS.out.2.1,HS.out.2.2.2.2.2.2.2.2⟩);have HIF:=Hd HS.out.2.2.1;have HIG:=Hd HS.out.2.2.2.1;clear hz1 hz2
   go_upto_region 5 with fail
   go_cut [30] (fun v wx=>v = .bool true/\wr=wx)
   case first =>
    by_cases h:0<n0
    ·have q0:decide (0<n0)=true:=DET h
     go_wp2_with fail
     go_meet
     exact⟨rfl,rfl⟩
    ·have q0:decide (0<n0)=false:=DEF h
     have q1:decide (0<n1)=true:=DET zq4;clear h
     go_wp2_with fail
     go_meet
     exact⟨rfl,rfl⟩
   case rest =>
   obtain⟨rfl,rfl⟩:=hcut;have HNZ:=Hd hz;clear hz
   go_upto_if 33 with (refine SortJ.stopC (n:=33) ?_;intro J hJ)
   refine Met.intro (hJ _ _ ?_)
   go_cut [12] (fun v wx=>v = .int .i64 z1/\wr=wx)
   case first =>
    clear hJ;have HX:=Hd HF.out;have hs:=HSF.out;have HZ2:=Hd HZ1.out;cases f' with
    | nil =>
     have q0:decide (0<n0)=false:=DEF (by have:=hs.1;simp at this;omega);clear hs
     go_wp2_with fail
     go_meet
     exact⟨congrArg _ HZ2.out,rfl⟩
    | cons x xs =>
     have hn:xs.length+1=n0:=hs.1;have q0:decide (0<n0)=true:=DET zq4;obtain⟨ad,e1,x0,x1⟩:=at0 (Kd.C_below HX.out HB.out) zq4;cases e1;have qi:0<n0:=by omega
     clear hs hn x1
     go_wp2_with fail
     go_meet
     exact⟨congrArg _ HZ2.out,rfl⟩
   case rest =>
   obtain⟨rfl,rfl⟩:=hcut;clear hJ
   go_upto_if 40 with (refine SortJ.stopC (n:=40) ?_;intro J hJ)
   refine Met.intro (hJ _ _ ?_)
   go_cut [12] (fun v wx=>v = .int .i64 z/\wr=wx)
   case first =>
    clear hJ;have HX:=Hd HG.out;have hs:=HSG.out;have HZ2:=Hd (show mAt f' g'=z from HZ.out);have HZ3:=Hd HZ1.out;cases g' with
    | nil =>
     have q0:decide (0<n1)=false:=DEF (by have:=hs.1;simp at this;omega);clear hs
     go_wp2_with fail
     go_meet
     exact⟨congrArg _ (HZ3.out.symm.trans HZ2.out),rfl⟩
    | cons x xs =>
     have hn:xs.length+1=n1:=hs.1;have q0:decide (0<n1)=true:=DET zq4;obtain⟨ad,e1,x0,x1⟩:=at0 (Kd.C_below HX.out HB.out) zq4;cases e1;have qi:0<n1:=by omega
     have HZ4:=Hd (show (if x.f0<z1 then x.f0 else z1)=z by rw[<- HZ2.out, <- HZ3.out];rfl);clear hs hn x1
     by_cases cl:x.f0<z1
     ·have HZ5:=Hd (show x.f0=z by rw[<- HZ4.out,if_pos cl])
      go_wp2_with fail
      go_meet
      exact⟨congrArg _ HZ5.out,rfl⟩
     ·have HZ5:=Hd (show z1=z by rw[<- HZ4.out,if_neg cl])
      go_wp2_with fail
      go_meet
      exact⟨congrArg _ HZ5.out,rfl⟩
   case rest =>
   obtain⟨rfl,rfl⟩:=hcut;clear hJ
   go_upto_if 57 with (refine SortJ.stopC (n:=57) ?_;intro J hJ)
   refine Met.intro (hJ _ _ ?_)
   go_cut [9,0] (fun va vs wx=>∃ (A:Option Addr) (c n:Nat),va = .int .i64 (a+popA f' z)/\vs = .slice A n c/\Aside0 ((popL f' z).length=n/\n<=c)/\Aside0 (Kd.C kJ w A n (popL f' z))/\Aside0 (Below wr.heap.size wr wx))
   case first =>
    clear hJ;have HX:=Hd HF.out;have hs:=HSF.out;have HI:=Hd HIF.out;cases f' with
    | nil =>
     have q0:decide (0<n0)=false:=DEF (by have:=hs.1;simp at this;omega);clear hs
     go_wp2_with fail
     go_meet
     exact⟨B0,d0,n0,by simp[popA],rfl,⟨HSF.out⟩,⟨HX.out⟩,⟨Below.refl _ _⟩⟩
    | cons x xs =>
     have hn:xs.length+1=n0:=hs.1;have q0:decide (0<n0)=true:=DET zq4;obtain⟨ad,e1,x0,x1⟩:=at0 (Kd.C_below HX.out HB.out) zq4;cases e1;have hx:=(HI.out x List.mem_cons_self).2;have qi:0<n0:=by omega
     by_cases ce:x.f0=z
     ·have e2:(x.f0 == z)=true:=by simpa using ce
      have HP:=Hd (show popA (x :: xs) z=x.f1/\popL (x :: xs) z=xs by unfold popA popL;simp only;rw[if_pos ce,if_pos ce];exact⟨rfl,rfl⟩);obtain⟨A2,hcut,hD⟩:=drop1 HX.out hn hs.2;have HD:=Hd hD;have HND:=Hd (show xs.length=n0 - 1/\n0 - 1<=d0 - 1 from ⟨by omega,by have:=hs.2;omega⟩);have qs:a+x.f1<=9223372036854775807:=by omega
      have qt : -9223372036854775808<=a+x.f1:=by omega
      clear hs hn hD ce HX
      go_wp2_with fail
      go_quiet (fail)
      go_wp2_with fail
      go_meet
      exact⟨A2,d0 - 1,n0 - 1,by rw[HP.out.1],rfl,⟨by rw[HP.out.2];exact HND.out⟩,⟨by rw[HP.out.2];exact HD.out⟩,⟨pw_below_drewN (Below.refl _ _) _⟩⟩
     ·have e2:(x.f0 == z)=false:=by simpa using ce
      have HP:=Hd (show popA (x :: xs) z=0/\popL (x :: xs) z=x :: xs by unfold popA popL;simp only;rw[if_neg ce,if_neg ce];exact⟨rfl,rfl⟩);clear hs hn ce
      go_wp2_with fail
      go_meet
      exact⟨some ad,d0,n0,by rw[HP.out.1,Int.add_zero],rfl,⟨by rw[HP.out.2];exact HSF.out⟩,⟨by rw[HP.out.2];exact HX.out⟩,⟨Below.refl _ _⟩⟩
   case rest =>
   obtain⟨C0,e0,m0,rfl,rfl,HSF2,HF2,HB2⟩:=hcut;clear hJ;have HBW:=Hd (HB.out.trans (HB2.out.mono HB.out.size))
   go_upto_if 76 with (refine SortJ.stopC (n:=76) ?_;intro J hJ)
   refine Met.intro (hJ _ _ ?_)
   go_cut [10,1] (fun va vs wy=>∃ (A:Option Addr) (c n:Nat),va = .int .i64 (b+popA g' z)/\vs = .slice A n c/\Aside0 ((popL g' z).length=n/\n<=c)/\Aside0 (Kd.C kJ w A n (popL g' z))/\Aside0 (Below wc.heap.size wc wy))
   case first =>
    clear hJ;have HX:=Hd HG.out;have hs:=HSG.out;have HI:=Hd HIG.out;cases g' with
    | nil =>
     have q0:decide (0<n1)=false:=DEF (by have:=hs.1;simp at this;omega);clear hs
     go_wp2_with fail
     go_meet
     exact⟨B1,d1,n1,by simp[popA],rfl,⟨HSG.out⟩,⟨HX.out⟩,⟨Below.refl _ _⟩⟩
    | cons x xs =>
     have hn:xs.length+1=n1:=hs.1;have q0:decide (0<n1)=true:=DET zq4;obtain⟨ad,e1,x0,x1⟩:=at0 (Kd.C_below HX.out HBW.out) zq4;cases e1;have hx:=(HI.out x List.mem_cons_self).2;have qi:0<n1:=by omega
     by_cases ce:x.f0=z
     ·have e2:(x.f0 == z)=true:=by simpa using ce
      have HP:=Hd (show popA (x :: xs) z=x.f1/\popL (x :: xs) z=xs by unfold popA popL;simp only;rw[if_pos ce,if_pos ce];exact⟨rfl,rfl⟩);obtain⟨A2,hcut,hD⟩:=drop1 HX.out hn hs.2;have HD:=Hd hD;have HND:=Hd (show xs.length=n1 - 1/\n1 - 1<=d1 - 1 from ⟨by omega,by have:=hs.2;omega⟩);have qs:b+x.f1<=9223372036854775807:=by omega
      have qt : -9223372036854775808<=b+x.f1:=by omega
      clear hs hn hD ce HX
      go_wp2_with fail
      go_quiet (fail)
      go_wp2_with fail
      go_meet
      exact⟨A2,d1 - 1,n1 - 1,by rw[HP.out.1],rfl,⟨by rw[HP.out.2];exact HND.out⟩,⟨by rw[HP.out.2];exact HD.out⟩,⟨pw_below_drewN (Below.refl _ _) _⟩⟩
     ·have e2:(x.f0 == z)=false:=by simpa using ce
      have HP:=Hd (show popA (x :: xs) z=0/\popL (x :: xs) z=x :: xs by unfold popA popL;simp only;rw[if_neg ce,if_neg ce];exact⟨rfl,rfl⟩);clear hs hn ce
      go_wp2_with fail
      go_meet
      exact⟨some ad,d1,n1,by rw[HP.out.1,Int.add_zero],rfl,⟨by rw[HP.out.2];exact HSG.out⟩,⟨by rw[HP.out.2];exact HX.out⟩,⟨Below.refl _ _⟩⟩
   case rest =>
   obtain⟨C1,e1,m1,rfl,rfl,HSG2,HG3,HB3⟩:=hcut;clear hJ;have HB4:=Hd (HB2.out.trans (HB3.out.mono HB2.out.size));have hsf:=HS.out;have hF:=HSF2.out;have hG:=HSG2.out;have pA:=popA_bd HIF.out z a 1073741824 (by rw[hsf.1];exact a1) (by rw[hsf.1];exact a2);have pB:=popA_bd HIG.out z b 1073741824 (by rw[hsf.2.1];exact b1) (by rw[hsf.2.1];exact b2);rw[hF.1] at pA;rw[hG.1] at pB;have hlt:=pop_lt HIG.out (f:=f') (by rw[hsf.1,hsf.2.1];have:=HNZ.out;omega);rw[HZ.out,hF.1,hG.1,hsf.1,hsf.2.1] at hlt;have hE:=HE.out;rw[bothL,if_neg (by rw[hsf.1,hsf.2.1];exact HNZ.out),HZ.out] at hE;obtain⟨p,hp⟩:∃ p,a+popA f' z=p:=⟨_,rfl⟩
   obtain⟨q,hq⟩:∃ q,b+popA g' z=q:=⟨_,rfl⟩
   rw[hp,hq] at hE;rw[hp] at pA;rw[hq] at pB;rw[hp,hq];have mf:=popL_le f' z;have mg:=popL_le g' z;rw[hF.1,hsf.1] at mf;rw[hG.1,hsf.2.1] at mg;have hov:=HOB.out p q zq4 zq4 zq4 zq4;have CO:=HOP.out p q wc zq4 zq4 zq4 zq4;obtain⟨v,hv⟩:∃ v,op p q=v:=⟨_,rfl⟩
   rw[hv] at hE hov CO;have COH:=Hd CO;have HE2:=Hd hE;have HRL:=Hd (show m0+m1<=k1/\m0<=1024/\m1<=1024/\p+1048576*(m0:Int)<=1073741824 /\ -1073741824<=p - 1048576*(m0:Int)/\q+1048576*(m1:Int)<=1073741824 /\ -1073741824<=q - 1048576*(m1:Int) by omega);have HIN:=Hd (show In50 (popL f' z)/\In50 (popL g' z) from ⟨fun j hj=>HIF.out j (popL_sub hj),fun j hj=>HIG.out j (popL_sub hj)⟩);have HOV:=Hd hov;have HOL:=Hd (show out.length+1+k1<=nf+ng/\nf<=1024/\ng<=1024 from ⟨by have:=hsf.2.2.2.2.2.2.1;omega,lf,lg⟩);have HWAS:=Hd (show -M<=was/\was<=M from ⟨hsf.2.2.2.2.1,hsf.2.2.2.2.2.1⟩);have hd1:v - was<=9223372036854775807:=by have:=HMM.out;have:=HWAS.out;omega
   have hd2 : -9223372036854775808<=v - was:=by have:=HMM.out;have:=HWAS.out;omega
   have HO4:=Hd (Kd.R_below HO.out HB4.out);have HB5:=Hd (HB.out.trans (HB4.out.mono HB.out.size));clear hsf pA pB hlt hE hp hq mf mg hov CO hv hF hG a1 a2 b1 b2 hk HS HE HF HG HO HB l0 l1
   by_cases cv:v=was
   ·have qv:(v != was)=false:=by simpa using cv
    have HE3:=Hd (show out ++ bothL op k1 (popL f' z) (popL g' z) p q was=R by have h:=HE2.out;unfold stJ at h;rw[if_neg (fun h2=>h2 cv),List.nil_append,cv] at h;exact h);clear cv
    go_wp2_with fail
    refine COH.out.mono ?_;rintro e w6 ⟨rfl,rfl⟩
    go_wp2_with fail
    go_roundg k1
    case measure=>omega
    case rel=>exact⟨popL f' z,popL g' z,out,p,q,was,C0,C1,e0,e1,m0,m1,rfl,rfl,rfl,rfl,rfl,HRL.out.1,HRL.out.2.1,HRL.out.2.2.1,HRL.out.2.2.2.1,HRL.out.2.2.2.2.1,HRL.out.2.2.2.2.2.1,HRL.out.2.2.2.2.2.2,⟨⟨HSF2.out.1,HSG2.out.1,HIN.out.1,HIN.out.2,HWAS.out.1,HWAS.out.2,by have:=HOL.out;omega,HSF2.out.2,HSG2.out.2⟩⟩,⟨HE3.out⟩,⟨HF2.out⟩,⟨HG3.out⟩,⟨HO4.out⟩,⟨HB5.out⟩⟩
   ·have qv:(v != was)=true:=by simpa using cv
    have HE3:=Hd (show (out ++ [⟨z,v - was⟩]) ++ bothL op k1 (popL f' z) (popL g' z) p q v=R by have h:=HE2.out;unfold stJ at h;rw[if_pos cv] at h;rw[List.append_assoc];exact h);clear cv
    go_wp2_with fail
    refine COH.out.mono ?_;rintro e w6 ⟨rfl,rfl⟩
    go_wp2_with (at_builtin;(refine Kd.R_append kJ (w0:=w) w.heap.size rfl _ _ 43 85 (.agg #[(.int .i64 0),(.int .i64 0)]) 16 rfl hu43 info85 rfl zq34 zq4 u8 out ⟨z,v - was⟩ [.int .i64 z,.int .i64 (v - was)] (fun _=>True) (fun _=>False) rfl (by first | rfl | (rw[World.size_alloc];rfl)) ?aP (fun _ h=>h.elim) (fun _ _=>trivial) ?aO ?aB ?aS ?aL ?_))
    case aP=>exact k85_mkM _ _ _ ⟨z,v - was⟩
    case aO=>exact HO4.out
    case aB=>exact HB5.out
    case aS=>exact HB5.out.size
    case aL=>have:=HOL.out;omega
    intro v1 w7 ho hb hg hat;have HO6:=Hd ho;have HB6:=Hd hb;clear ho hb hg hat
    go_wp2_with fail
    go_roundg k1
    case measure=>omega
    case rel=>exact⟨popL f' z,popL g' z,out ++ [⟨z,v - was⟩],p,q,v,C0,C1,e0,e1,m0,m1,rfl,rfl,rfl,rfl,rfl,HRL.out.1,HRL.out.2.1,HRL.out.2.2.1,HRL.out.2.2.2.1,HRL.out.2.2.2.2.1,HRL.out.2.2.2.2.2.1,HRL.out.2.2.2.2.2.2,⟨⟨HSF2.out.1,HSG2.out.1,HIN.out.1,HIN.out.2,HOV.out.1,HOV.out.2,by have:=HOL.out;rw[List.length_append];simp only[List.length_cons,List.length_nil];omega,HSF2.out.2,HSG2.out.2⟩⟩,⟨HE3.out⟩,⟨HF2.out⟩,⟨HG3.out⟩,⟨HO6.out⟩,⟨HB6.out⟩⟩
end Go.Proofs.YtmkgecapkeojaaaGreat.Eg
end
section
namespace Go.Proofs.YtmkgecapkeojaaaGreat.Eg
open PDa
open RowKit YtmkgecapkeojaaaGreatW.PrintWords YtmkgecapkeojaaaGreatW.PrintLast YtmkgecapkeojaaaGreatW.PrintMore
open Stp Rw Canon
open Go.Proofs.YtmkgecapkeojaaaGreat.EvP (U)
theorem rdI (l:List Int) (i:Nat) (h:i<l.length):rd l (i:Int)=l[i]:=by
 unfold rd;rw[Int.toNat_natCast,List.getD_eq_getElem?_getD,List.getElem?_eq_getElem h]
 rfl
theorem rdJ (l:List Jp) (i:Nat) (h:i<l.length):rd_T85 l (i:Int)=l[i]:=by
 unfold rd_T85;rw[Int.toNat_natCast,List.getD_eq_getElem?_getD,List.getElem?_eq_getElem h]
 rfl
def withI (t:Int):List Int->List Int
 | []=>[t]
 | x :: xs=>if x=t then x :: xs else if t<x then t :: x :: xs else x :: withI t xs
theorem withI_len (t:Int):∀ l:List Int,(withI t l).length<=l.length+1
 | []=>by simp[withI]
 | x :: xs=>by
  unfold withI;have:=withI_len t xs
  split
  ·simp
  ·split <;> simp <;> omega
theorem withI_mem (t:Int):∀ (l:List Int) (z:Int),z ∈ withI t l ↔ z=t\/z ∈ l
 | [],z=>by simp[withI]
 | x :: xs,z=>by
  unfold withI
  split
  ·rename_i h;subst h;simp
  ·split
   ·simp
   ·simp only[List.mem_cons,withI_mem t xs z]
    constructor
    ·rintro (h | h | h)
     ·exact .inr (.inl h)
     ·exact .inl h
     ·exact .inr (.inr h)
    ·rintro (h | h | h)
     ·exact .inr (.inl h)
     ·exact .inl h
     ·exact .inr (.inr h)
theorem withI_inc (t:Int):∀ (l:List Int),l.Pairwise (· < ·)->(withI t l).Pairwise (· < ·)
 | [],_=>by simp[withI]
 | x :: xs,h=>by
  have h2:=List.pairwise_cons.1 h;unfold withI
  split
  ·exact h
  ·rename_i c
   split
   ·rename_i c2
    refine List.pairwise_cons.2 ⟨fun y hy=>?_,h⟩
    rcases List.mem_cons.1 hy with rfl | hy
    ·exact c2
    ·have:=h2.1 y hy;omega
   ·rename_i c2
    refine List.pairwise_cons.2 ⟨fun y hy=>?_,withI_inc t xs h2.2⟩
    rcases (withI_mem t xs y).1 hy with rfl | hy
    ·omega
    ·exact h2.1 y hy
def valI:List Jp->Int->Int
 | [],_=>0
 | x :: xs,p=>(if x.f0<=p then x.f1 else 0)+valI xs p
theorem valI_append (p:Int):∀ a b:List Jp,valI (a ++ b) p=valI a p+valI b p
 | [],b=>by simp[valI]
 | x :: xs,b=>by simp[valI,valI_append p xs b];omega
def Fair (l:List Jp):Prop := ∀ x ∈ l,-1048576<=x.f1/\x.f1<=1048576
theorem valI_bound (p:Int):∀ l:List Jp,Fair l -> -(1048576*(l.length:Int))<=valI l p/\valI l p<=1048576*(l.length:Int)
 | [],_=>by simp[valI]
 | x :: xs,h=>by
  have h1:=h x List.mem_cons_self;have h2:=valI_bound p xs (fun y hy=>h y (List.mem_cons_of_mem _ hy));simp only[valI,List.length_cons]
  split <;> omega
theorem wrapS (z:Int) (h : -4611686018427387904<=z) (h2:z<=4611686018427387904):wrap64 z=z:=by unfold wrap64;omega
theorem value_l0 (l:List Jp) (p:Int) (hf:Fair l) (hl:l.length<=1000000):∀ (m i:Nat),l.length - i=m->i<=l.length->U (fun k=>r09_Value.l0 k l p (valI (l.take i) p) (i:Int)) (valI l p)
 | m,i,hm,hi=>by
  refine EvP.U.succ ?_;simp only[r09_Value.l0]
  by_cases c:i<l.length
  ·refine EvP.U.pos zq4 (EvP.U.pos zq4 ?_)
   rw[rdJ l i c,wrapN i zq4];have ht:l.take (i+1)=l.take i ++ [l[i]]:=by rw[List.take_add_one,List.getElem?_eq_getElem c];rfl
   have hb:=valI_bound p (l.take i) (fun x hx=>hf x (List.mem_of_mem_take hx));have hti:(l.take i).length=i:=by rw[List.length_take];omega
   rw[hti] at hb;have hf1:=hf _ (List.getElem_mem c)
   by_cases c1:l[i].f0<=p
   ·refine EvP.U.pos c1 ?_
    rw[wrapS _ zq4 zq4,show valI (l.take i) p+l[i].f1=valI (l.take (i+1)) p by rw[ht,valI_append];simp[valI,c1]]
    match m,hm with
    | 0,hm=>omega
    | m+1,hm=>exact value_l0 l p hf hl m (i+1) zq4 zq4
   ·refine EvP.U.neg c1 ?_
    rw[show valI (l.take i) p=valI (l.take (i+1)) p by rw[ht,valI_append];simp[valI,c1]]
    match m,hm with
    | 0,hm=>omega
    | m+1,hm=>exact value_l0 l p hf hl m (i+1) zq4 zq4
  ·obtain rfl:i=l.length:=by omega
   refine EvP.U.neg zq4 ?_;rw[List.take_length];exact EvP.U.some _
theorem value09 (l:List Jp) (p:Int) (hf:Fair l) (hl:l.length<=1000000):U (fun k=>r09_Value.f k l p) (valI l p):=by
 have:=value_l0 l p hf hl _ 0 rfl (Nat.zero_le _);unfold r09_Value.f
 simpa [valI] using this
theorem mayL_bad (last:Int) (x:Jp) (xs:List Jp) (h:x.f0<=last\/x.f0 >= 1125899906842624\/x.f1=0\/x.f1 > 1048576\/x.f1 < -1048576):mayL last (x :: xs)=false:=by
 cases e:mayL last (x :: xs) with
 | false=>rfl
 | true =>
  simp only[mayL,fairB,Bool.and_eq_true,decide_eq_true_eq] at e;omega
theorem mayL_good (last:Int) (x:Jp) (xs:List Jp) (h:last<x.f0/\x.f0<1125899906842624/\x.f1 ≠ 0/\x.f1<=1048576 /\ -1048576<=x.f1):mayL last (x :: xs)=mayL x.f0 xs:=by
 obtain⟨h1,h2,h3,h4,h5⟩:=h;simp only[mayL,fairB,DET h1,DET h2,DET h3,DET h4,DET h5,Bool.true_and]
theorem may_j1t (l:List Jp) (i:Int):U (fun k=>r09_May.j1 k l i true) false:=by
 refine EvP.U.succ ?_;simp only[r09_May.j1];exact EvP.U.pos trivial (EvP.U.some _)
theorem may09_l0 (l:List Jp) (hl:l.length<=1024):∀ (m i:Nat) (last:Int),l.length - i=m->i<=l.length->(i=0/\last = -2 \/ -1<=last /\ ∃ h:0<i, ∃ h2:i - 1<l.length,last=l[i - 1].f0)->U (fun k=>r09_May.l0 k l (i:Int)) (mayL last (l.drop i))
 | m,i,last,hm,hi,hlast=>by
  refine EvP.U.succ ?_;simp only[r09_May.l0]
  by_cases c:i<l.length
  ·refine EvP.U.pos zq4 (EvP.U.pos zq4 ?_)
   rw[rdJ l i c,List.drop_eq_getElem_cons c];have hll : -2<=last:=by rcases hlast with h | h <;> omega
   by_cases c1:l[i].f0 < -1
   ·rw[mayL_bad _ _ _ (.inl zq4)];exact EvP.U.pos c1 (may_j1t l _)
   refine EvP.U.neg c1 ?_
   by_cases c2:l[i].f0 >= 1125899906842624
   ·rw[mayL_bad _ _ _ (.inr (.inl c2))];exact EvP.U.pos c2 (may_j1t l _)
   refine EvP.U.neg c2 ?_
   by_cases c3:l[i].f1=0
   ·rw[mayL_bad _ _ _ (.inr (.inr (.inl c3)))];exact EvP.U.pos c3 (may_j1t l _)
   refine EvP.U.neg c3 ?_
   by_cases c4:l[i].f1 > 1048576
   ·rw[mayL_bad _ _ _ (.inr (.inr (.inr (.inl c4))))];exact EvP.U.pos c4 (may_j1t l _)
   refine EvP.U.neg c4 ?_
   by_cases c5:l[i].f1 < -1048576
   ·rw[mayL_bad _ _ _ (.inr (.inr (.inr (.inr c5)))),DET c5];exact may_j1t l _
   rw[DEF c5];refine EvP.U.succ ?_;simp only[r09_May.j1];refine EvP.U.neg zq34 ?_;have next:last<l[i].f0->U (fun k=>r09_May.l0 k l (wrap64 ((i:Int)+1))) (mayL last (l[i] :: l.drop (i+1))):=fun hlt=>by
    clear hlast;rw[wrapN i zq4,mayL_good _ _ _ ⟨hlt,by omega,c3,by omega,by omega⟩]
    match m,hm with
    | 0,hm=>omega
    | m+1,hm=>exact may09_l0 l hl m (i+1) _ zq4 zq4 (.inr ⟨by omega,by omega,by simpa using c,rfl⟩)
   rcases hlast with ⟨h0,h1⟩ | ⟨h1,h2,h3,h4⟩
   ·exact EvP.U.neg zq4 (next zq4)
   ·have e:wrap64 ((i:Int) - 1)=((i - 1:Nat):Int):=by unfold wrap64;omega
    refine EvP.U.pos zq4 (EvP.U.pos zq4 (EvP.U.pos zq4 ?_));rw[e,rdJ l (i - 1) h3,rdJ l i c];refine EvP.U.pos zq4 (EvP.U.pos zq4 ?_)
    by_cases c6:l[i].f0<=l[i - 1].f0
    ·rw[mayL_bad _ _ _ (.inl zq4)];exact EvP.U.pos c6 (EvP.U.some _)
    ·exact EvP.U.neg c6 (next zq4)
  ·refine EvP.U.neg zq4 ?_
   rw[List.drop_eq_nil_of_le zq4];exact EvP.U.some _
theorem may09 (l:List Jp):U (fun k=>r09_May.f k l) (mayJ l):=by
 unfold r09_May.f mayJ
 by_cases c:l.length<=1024
 ·rw[DET c,Bool.true_and]
  exact EvP.U.neg zq4 (may09_l0 l c _ 0 (-2) rfl (Nat.zero_le _) (.inl ⟨rfl,rfl⟩))
 ·rw[DEF c,Bool.false_and]
  exact EvP.U.pos zq4 (EvP.U.some _)
def toldI:List Int->List Int->Int->List Jp
 | p :: ps,v :: vs,was=>(if v=was then [] else [⟨p,v - was⟩]) ++ toldI ps vs v
 | _,_,_=>[]
theorem told_l0 (ps vs:List Int) (hl:ps.length<=1000000) (hv:vs.length=ps.length) (hb:∀ v ∈ vs,-2305843009213693952<=v/\v<=2305843009213693952):∀ (m i:Nat) (out:List Jp) (was:Int),ps.length - i=m->i<=ps.length->out.length<=i -> -2305843009213693952<=was/\was<=2305843009213693952 ->
  U (fun k=>r09_Told.l0 k ps vs out was (i:Int)) (if mayJ (out ++ toldI (ps.drop i) (vs.drop i) was)=true then (out ++ toldI (ps.drop i) (vs.drop i) was,0) else ([],7))
 | m,i,out,was,hm,hi,ho,hw=>by
  refine EvP.U.succ ?_;simp only[r09_Told.l0]
  by_cases c:i<ps.length
  ·have c':i<vs.length:=by omega
   refine EvP.U.pos zq4 (EvP.U.pos zq4 (EvP.U.pos zq4 ?_));rw[rdI vs i c',rdI ps i c,wrapN i zq4];have h1:=hb _ (List.getElem_mem c');rw[List.drop_eq_getElem_cons c,List.drop_eq_getElem_cons c',toldI]
   by_cases c1:vs[i]=was
   ·refine EvP.U.pos c1 ?_
    rw[if_pos c1,List.nil_append]
    match m,hm with
    | 0,hm=>omega
    | m+1,hm=>exact told_l0 ps vs hl hv hb m (i+1) out _ zq4 zq4 zq4 h1
   ·refine EvP.U.neg c1 (EvP.U.pos zq4 ?_)
    rw[if_neg c1, <- List.append_assoc,wrapS _ zq4 zq4]
    match m,hm with
    | 0,hm=>omega
    | m+1,hm=>exact told_l0 ps vs hl hv hb m (i+1) _ _ zq4 zq4 zq33 h1
  ·refine EvP.U.neg zq4 ?_
   rw[List.drop_eq_nil_of_le zq4];have e:toldI [] (vs.drop i) was=[]:=by rw[toldI];simp
   rw[e,List.append_nil];refine EvP.U.bind (may09 out) ?_;cases h:mayJ out with
   | true=>exact EvP.U.pos rfl (EvP.U.some _)
   | false=>exact EvP.U.neg zq34 (EvP.U.some _)
def placeS (acc:List Int) (x:Jp):List Int:=if x.f0<1125899906842624 then withI x.f0 acc else acc
def placesI (l:List Jp):List Int:=l.foldl placeS []
theorem placeS_len (acc:List Int) (x:Jp):(placeS acc x).length<=acc.length+1:=by
 unfold placeS;have:=withI_len x.f0 acc
 split <;> omega
theorem placeS_inc (acc:List Int) (x:Jp) (h:acc.Pairwise (· < ·)):(placeS acc x).Pairwise (· < ·):=by
 unfold placeS
 split
 ·exact withI_inc _ _ h
 ·exact h
theorem places_fold:∀ (l:List Jp) (acc:List Int),acc.Pairwise (· < ·)->(l.foldl placeS acc).Pairwise (· < ·) /\ ∀ z,z ∈ l.foldl placeS acc ↔ z ∈ acc \/ ∃ x ∈ l,x.f0=z/\z<1125899906842624
 | [],acc,h=>⟨h,by simp⟩
 | x :: xs,acc,h=>by
  obtain⟨h1,h2⟩:=places_fold xs (placeS acc x) (placeS_inc acc x h);refine⟨h1,fun z=>?_⟩;rw[List.foldl_cons,h2];unfold placeS
  constructor
  ·rintro (h | ⟨y,hy,h3⟩)
   ·by_cases c:x.f0<1125899906842624
    ·rw[if_pos c,withI_mem] at h
     rcases h with rfl | h
     ·exact .inr ⟨x,List.mem_cons_self,rfl,c⟩
     ·exact .inl h
    ·rw[if_neg c] at h;exact .inl h
   ·exact .inr ⟨y,List.mem_cons_of_mem _ hy,h3⟩
  ·rintro (h | ⟨y,hy,h3,h4⟩)
   ·left
    split
    ·rw[withI_mem];exact .inr h
    ·exact h
   ·rcases List.mem_cons.1 hy with rfl | hy
    ·left
     rw[if_pos zq4,withI_mem];exact .inl h3.symm
    ·exact .inr ⟨y,hy,h3,h4⟩
theorem told_mem (ps:List Int):∀ (vs:List Int) (was:Int), ∀ x ∈ toldI ps vs was,x.f0 ∈ ps:=by
 induction ps with
 | nil=>intro vs was x hx;rw[toldI] at hx;simp at hx;simp
 | cons p ps ih =>
  intro vs was x hx;cases vs with
  | nil=>rw[toldI] at hx;simp at hx;simp
  | cons v vs =>
   rw[toldI,List.mem_append] at hx
   rcases hx with hx | hx
   ·split at hx
    ·simp at hx
    ·rw[List.mem_singleton] at hx;subst hx;exact List.mem_cons_self
   ·exact List.mem_cons_of_mem _ (ih vs v x hx)
theorem told_is (ps:List Int) (h:ps.Pairwise (· < ·)):∀ (vs:List Int) (was:Int),IsCanon ltI ((toldI ps vs was).map pJ):=by
 induction ps with
 | nil=>intro vs was;rw[toldI];exact⟨List.Pairwise.nil,by simp⟩;simp
 | cons p ps ih =>
  intro vs was;have h2:=List.pairwise_cons.1 h;cases vs with
  | nil=>rw[toldI];exact⟨List.Pairwise.nil,by simp⟩;simp
  | cons v vs =>
   rw[toldI];have r:=ih h2.2 vs v
   split
   ·rw[List.nil_append];exact r
   ·rename_i c
    refine⟨?_,fun x hx=>?_⟩
    ·rw[List.singleton_append,List.map_cons]
     refine List.pairwise_cons.2 ⟨fun y hy=>?_,r.1⟩;obtain⟨z,hz,rfl⟩:=List.mem_map.1 hy;have:=h2.1 _ (told_mem ps vs v z hz);exact DET this
    ·rw[List.singleton_append,List.map_cons] at hx
     rcases List.mem_cons.1 hx with rfl | hx
     ·show v - was ≠ 0
      omega
     ·exact r.2 x hx
theorem val_diff (q p:Int) (hqp:q<p):∀ l:List Jp,(∀ x ∈ l,q<x.f0->x.f0<=p->x.f0=p)->valI l p - valI l q=J (l.map pJ) p
 | [],_=>by simp[valI,J_nil]
 | x :: xs,h=>by
  have r:=val_diff q p hqp xs (fun y hy=>h y (List.mem_cons_of_mem _ hy));have hx:=h x List.mem_cons_self;rw[List.map_cons,J_cons, <- r]
  show ((if x.f0<=p then x.f1 else 0)+valI xs p) - ((if x.f0<=q then x.f1 else 0)+valI xs q)=(if x.f0=p then x.f1 else 0)+(valI xs p - valI xs q)
  by_cases c1:x.f0<=q
  ·rw[if_pos zq4,if_pos c1,if_neg zq4];omega
  ·by_cases c2:x.f0<=p
   ·rw[if_pos c2,if_neg c1,if_pos (hx zq4 c2)];omega
   ·rw[if_neg c2,if_neg c1,if_neg zq4];omega
theorem J_zero (l:List Jp) (k:Int) (h:∀ x ∈ l,x.f0 ≠ k):J (l.map pJ) k=0:=J_none k _ (fun y hy=>by
 obtain⟨x,hx,rfl⟩:=List.mem_map.1 hy;exact h x hx)
theorem told_J (l:List Jp) (ps:List Int):∀ (q:Int),ps.Pairwise (· < ·)->(∀ p ∈ ps,q<p/\p<1125899906842624)->(∀ x ∈ l,q<x.f0->x.f0<1125899906842624->x.f0 ∈ ps) -> ∀ k,J ((toldI ps (ps.map (valI l)) (valI l q)).map pJ) k=if q<k/\k<1125899906842624 then J (l.map pJ) k else 0:=by
 induction ps with
 | nil =>
  intro q _ _ h3 k;rw[toldI]
  ·split
   ·rename_i c
    rw[J_zero l k (fun x hx e=>by have:=h3 x hx zq4 zq4;simp at this)];rfl
   ·rfl
  ·simp
 | cons p ps ih =>
  intro q h1 h2 h3 k;have h1':=List.pairwise_cons.1 h1;have hp:=h2 p List.mem_cons_self;have r:=ih p h1'.2 (fun z hz=>⟨h1'.1 z hz,(h2 z (List.mem_cons_of_mem _ hz)).2⟩) (fun x hx c1 c2=>by
   rcases List.mem_cons.1 (h3 x hx zq4 c2) with e | e
   ·omega
   ·exact e) k
  have hd:=val_diff q p hp.1 l (fun x hx c1 c2=>by
   rcases List.mem_cons.1 (h3 x hx c1 zq4) with e | e
   ·exact e
   ·have:=h1'.1 _ e;omega)
  rw[List.map_cons,toldI,List.map_append,J_append,r];have hhead:J ((if valI l p=valI l q then [] else [(⟨p,valI l p - valI l q⟩:Jp)]).map pJ) k=if p=k then valI l p - valI l q else 0:=by
   split
   ·rename_i c
    rw[List.map_nil,J_nil]
    split <;> omega
   ·rw[List.map_cons,List.map_nil,J_cons,J_nil]
    show (if p=k then valI l p - valI l q else 0)+0=_
    rw[Int.add_zero]
  rw[hhead,hd]
  by_cases c:p=k
  ·subst c
   rw[if_pos rfl,if_neg zq4,if_pos hp];omega
  ·rw[if_neg c]
   by_cases c1:p<k/\k<1125899906842624
   ·rw[if_pos c1,if_pos ⟨by omega,c1.2⟩];omega
   ·rw[if_neg c1]
    split
    ·rename_i c2
     rw[J_zero l k (fun x hx e=>by
      rcases List.mem_cons.1 (h3 x hx zq4 zq4) with e' | e'
      ·omega
      ·have:=h1'.1 _ e';omega)];rfl
    ·rfl
theorem val_low (q:Int):∀ l:List Jp,(∀ x ∈ l,q<x.f0)->valI l q=0
 | [],_=>rfl
 | x :: xs,h=>by
  have:=h x List.mem_cons_self;rw[valI,if_neg zq4,val_low q xs (fun y hy=>h y (List.mem_cons_of_mem _ hy))];rfl
theorem told_canon (l:List Jp) (h:∀ x ∈ l,-1<=x.f0):toldI (placesI l) ((placesI l).map (valI l)) 0=canonJ l:=by
 obtain⟨hs,hm⟩:=places_fold l [] List.Pairwise.nil;have hz:=val_low (-2) l (fun x hx=>by have:=h x hx;omega);have hJ:=told_J l (placesI l) (-2) hs (fun p hp=>by
  rcases (hm p).1 hp with e | ⟨x,hx,e,e2⟩
  ·simp at e
  ·have:=h x hx;omega) (fun x hx _ c2=>(hm _).2 (.inr ⟨x,hx,rfl,c2⟩))
 rw[hz] at hJ;have e:=canon_eq ltI_ord (told_is (placesI l) hs ((placesI l).map (valI l)) 0) (l:=(l.map pJ).filter fun x=>decide (x.1<1125899906842624)) (fun k=>by
  rw[hJ k,J_filterK (fun z=>decide (z<1125899906842624)) k]
  by_cases c:k<1125899906842624
  ·by_cases c2 : -2<k
   ·rw[if_pos ⟨c2,c⟩,if_pos (DET c)]
   ·rw[if_neg zq4,if_pos (DET c),J_zero l k (fun x hx e=>by have:=h x hx;omega)]
  ·rw[if_neg zq4,if_neg (by simpa using c)])
 unfold canonJ;rw[<- e,List.map_map];have:(uJ ∘ pJ)=id:=by funext x;exact uJ_pJ x
 rw[this,List.map_id]
theorem may_len {r:List Vl} (h:rowMay r=true):r.length<=8:=by
 unfold rowMay at h;rw[Bool.and_eq_true] at h;exact ODT h.1
theorem rowIns_len (r:List Vl):∀ l:List (List Vl),(rowIns r l).length<=l.length+1
 | []=>by simp[rowIns]
 | x :: xs=>by
  unfold rowIns;have:=rowIns_len r xs
  split
  ·simp;omega
  ·split <;> simp
theorem rowIns_take (r:List Vl):∀ (j:Nat) (rows:List (List Vl)),(∀ x ∈ rows.take j,rC x r<0)->rowIns r rows=rows.take j ++ rowIns r (rows.drop j)
 | 0,rows,_=>by simp
 | j+1,[],_=>by simp
 | j+1,x :: xs,h=>by
  rw[rowIns,if_pos (h x zq30),rowIns_take r j xs (fun y hy=>h y (by simp[hy]))];simp
theorem fold_rows:∀ (l:List EdP) (acc:List (List Vl)),Inc acc->Inc (l.foldl (fun a e=>rowIns e.f0 a) acc) /\ ∀ z,z ∈ l.foldl (fun a e=>rowIns e.f0 a) acc ↔ z ∈ acc \/ ∃ e ∈ l,e.f0=z
 | [],acc,h=>⟨h,by simp⟩
 | e :: es,acc,h=>by
  obtain⟨h1,h2⟩:=fold_rows es (rowIns e.f0 acc) (rowIns_inc _ _ h);refine⟨h1,fun z=>?_⟩;rw[List.foldl_cons,h2,rowIns_mem]
  constructor
  ·rintro ((h | h) | ⟨x,hx,h⟩)
   ·exact .inr ⟨e,List.mem_cons_self,h.symm⟩
   ·exact .inl h
   ·exact .inr ⟨x,List.mem_cons_of_mem _ hx,h⟩
  ·rintro (h | ⟨x,hx,h⟩)
   ·exact .inl (.inr h)
   ·rcases List.mem_cons.1 hx with rfl | hx
    ·exact .inl (.inl h.symm)
    ·exact .inr ⟨x,hx,h⟩
end Go.Proofs.YtmkgecapkeojaaaGreat.Eg
end
section
namespace Go.Proofs.YtmkgecapkeojaaaGreat.Eg
open PDa
open RowKit YtmkgecapkeojaaaGreatW.PrintWords Stp Rw Cmp
open Go.Proofs.YtmkgecapkeojaaaGreat.EvP (U)
theorem eachR_all (p:List Jp->Bool):∀ (its:List (List Vl × List Jp)) (last:Option (List Vl)),eachR p last its=true -> ∀ x ∈ its,rowMay x.1=true/\p x.2=true
 | [],_,_,x,hx=>by cases hx
 | y :: ys,last,h,x,hx=>by
  rw[eachR,Bool.and_eq_true,Bool.and_eq_true,Bool.and_eq_true] at h
  rcases List.mem_cons.1 hx with rfl | hx
  ·exact⟨h.1.1.1,h.1.2⟩
  ·exact eachR_all p ys _ h.2 x hx
theorem mayE_all {l:List EdP} (h:mayE l=true):∀ x ∈ runsP l,rowMay x.1=true/\mayJ x.2=true:=by
 unfold mayE eachP at h;rw[Bool.and_eq_true] at h;exact eachR_all _ _ _ h.2
def EOk (x:List Op8) (l:List EdP):Prop := ∀ e ∈ l,EvP.XOk x e.f0
end Go.Proofs.YtmkgecapkeojaaaGreat.Eg
end
section
namespace Go.Proofs.YtmkgecapkeojaaaGreat.PDd
open PDa Eg
open RowKit YtmkgecapkeojaaaGreatW.PrintWords YtmkgecapkeojaaaGreatW.PrintLast YtmkgecapkeojaaaGreatW.PrintMore
def r64 (z:Int):Bool:=decide (-9223372036854775808<=z) && decide (z<=9223372036854775807)
theorem r64_of {z:Int} (h:r64 z=true):EvP.R64 z:=by
 unfold r64 at h;rw[Bool.and_eq_true] at h;exact⟨ODT h.1,ODT h.2⟩
def okEs (l:List S41):Bool:=l.all fun e=>decide (e.f0.length<=4398046511104) && e.f0.all fun v=>r64 v.f1
def okXs (x:List S68):Bool:=x.all fun o=>r64 o.f1
theorem okEs_row {l:List S41} (h:okEs l=true):∀ e ∈ l,e.f0.length<=4398046511104:=fun e he=>by
 have:=List.all_eq_true.1 h e he;rw[Bool.and_eq_true] at this;exact ODT this.1
theorem okX {l:List S41} {x:List S68} (h:okEs l=true) (hx:okXs x=true):EOk x l:=fun e he=>by
 refine⟨fun o ho=>r64_of (List.all_eq_true.1 hx o ho),fun v hv=>?_⟩;have:=List.all_eq_true.1 h e he;rw[Bool.and_eq_true,List.all_eq_true] at this;exact r64_of (this.2 v hv)
end Go.Proofs.YtmkgecapkeojaaaGreat.PDd
end
section
namespace Go.Proofs.YtmkgecapkeojaaaGreat.Eg
open PDa
open Go.Proofs.YtmkgecapkeojaaaGreat.EvP (evalV formV holdsV)
open RowKit YtmkgecapkeojaaaGreatW.PrintWords Stp Rw Cmp Canon
def S (φ:KK->Int):List (KK × Int)->Int
 | []=>0
 | x :: xs=>φ x.1*x.2+S φ xs
theorem S_ins (φ:KK->Int) (x:KK × Int):∀ l,S φ (ins ltK x l)=φ x.1*x.2+S φ l
 | []=>rfl
 | y :: ys=>by
  unfold ins
  split
  ·rename_i h
   show φ y.1*(x.2+y.2)+_=φ x.1*x.2+(φ y.1*y.2+_)
   rw[h,Int.mul_add];omega
  ·split
   ·rfl
   ·rw[S,S_ins φ x ys,S];omega
theorem S_canon (φ:KK->Int) (l:List (KK × Int)):S φ (canon ltK l)=S φ l:=by
 have h0:∀ l:List (KK × Int),S φ (l.filter fun x=>decide (x.2 ≠ 0))=S φ l:=by
  intro l
  induction l with
  | nil=>rfl
  | cons x xs ih =>
   rw[List.filter_cons]
   by_cases h:x.2=0
   ·rw[if_neg (by simp[h]),ih,S,h,Int.mul_zero];omega
   ·rw[if_pos (by simp[h]),S,S,ih]
 unfold canon;rw[h0]
 induction l with
 | nil=>rfl
 | cons x xs ih=>rw[List.foldr_cons,S_ins,ih,S]
theorem S_congr (φ:KK->Int) {a b:List (KK × Int)} (h:∀ k,J a k=J b k):S φ a=S φ b:=by rw[<- S_canon φ a, <- S_canon φ b,canon_congr ltK_ord h]
theorem jumpsOf_filter (p:List Vl->Bool) (r:List Vl):∀ l:List EdP,(jumpsOf (l.filter fun e=>p e.f0) r).length<=(jumpsOf l r).length:=fun l=>by
 unfold jumpsOf;rw[List.length_map,List.length_map];exact (List.Sublist.filter _ List.filter_sublist).length_le
theorem MayP.filter {l:List EdP} (h:MayP l) (p:List Vl->Bool):MayP (l.filter fun e=>p e.f0):=by
 refine⟨?_,fun e he=>h.each e (List.mem_filter.1 he).1,fun r=>Nat.le_trans (jumpsOf_filter p r l) (h.few r),Nat.le_trans (List.length_filter_le _ _) h.len⟩;have:=h.can.filter (fun x=>p x.1.1);rw[List.filter_map] at this;exact this
def Pre (v:Int):List Jp->Prop
 | []=>True
 | j :: js=>0<=v+j.f1/\Pre (v+j.f1) js
theorem leastL_iff:∀ (f:List Jp) (v m:Int),0<=leastL v m f ↔ 0<=m/\Pre v f
 | [],v,m=>by simp[leastL,Pre]
 | j :: js,v,m=>by
  rw[leastL,leastL_iff js,Pre]
  split <;> constructor <;> rintro⟨h1,h2⟩
  ·exact⟨by omega,h1,h2⟩
  ·exact⟨h2.1,h2.2⟩
  ·exact⟨h1,by omega,h2⟩
  ·exact⟨h1,h2.2⟩
theorem valI_low {f:List Jp} {t:Int} (h:∀ j ∈ f,t<j.f0):valI f t=0:=by
 induction f with
 | nil=>rfl
 | cons x xs ih =>
  have h1:=h x List.mem_cons_self;rw[valI,if_neg (by omega),ih fun j hj=>h j (List.mem_cons_of_mem _ hj)];rfl
theorem pre_of:∀ (f:List Jp) (v:Int),f.Pairwise (fun x y=>x.f0<y.f0)->0<=v->(∀ t,0<=v+valI f t)->Pre v f
 | [],_,_,_,_=>trivial
 | j :: js,v,hp,hv,h=>by
  have h1:=List.pairwise_cons.1 hp;have h2:=h j.f0;rw[valI,if_pos (Int.le_refl _),valI_low h1.1] at h2;refine⟨by omega,pre_of js _ h1.2 (by omega) fun t=>?_⟩
  by_cases c:j.f0<=t
  ·have:=h t
   rw[valI,if_pos c] at this;omega
  ·rw[valI_low (fun y hy=>by have:=h1.1 y hy;omega)];omega
theorem pre_val:∀ (f:List Jp) (v:Int),f.Pairwise (fun x y=>x.f0<y.f0)->0<=v->Pre v f -> ∀ t,0<=v+valI f t
 | [],v,_,hv,_,t=>by simp[valI];exact hv
 | j :: js,v,hp,hv,h,t=>by
  have h1:=List.pairwise_cons.1 hp
  by_cases c:j.f0<=t
  ·have:=pre_val js _ h1.2 h.1 h.2 t
   rw[valI,if_pos c];omega
  ·rw[valI_low (fun y hy=>by
    rcases List.mem_cons.1 hy with rfl | hy
    ·omega
    ·have:=h1.1 y hy;omega)]
   omega
theorem least_iff {f:List Jp} (h:mayJ f=true):0<=leastJ f ↔ ∀ t,0<=valI f t:=by
 have hp:=(mayJ_parts h).2.2;unfold leastJ;rw[if_pos h];cases f with
 | nil=>simp[valI]
 | cons j js =>
  simp only;rw[leastL_iff]
  constructor
  ·rintro⟨_,h2⟩ t
   have:=pre_val _ 0 hp (Int.le_refl _) h2 t;omega
  ·intro h2
   refine⟨?_,pre_of _ 0 hp (Int.le_refl _) fun t=>by have:=h2 t;omega⟩
   split
   ·have:=h2 j.f0
    rw[valI,if_pos (Int.le_refl _),valI_low (List.pairwise_cons.1 hp).1] at this;omega
   ·exact Int.le_refl _
def NN (l:List EdP):Prop := ∀ r t,0<=valI (jumpsOf l r) t
theorem eachR_and (q:List Jp->Bool):∀ (its:List (List Vl × List Jp)) (last:Option (List Vl)),eachR (fun f=>mayJ f && q f) last its=(eachR mayJ last its && its.all fun x=>q x.2)
 | [],_=>rfl
 | x :: its,last=>by
  rw[eachR,eachR,eachR_and q its,List.all_cons];generalize rowMay x.1=a;generalize lastB last x.1=b;generalize mayJ x.2=c;generalize q x.2=d;generalize eachR mayJ (some x.1) its=e;generalize its.all _=g
  cases a <;> cases b <;> cases c <;> cases d <;> cases e <;> cases g <;> rfl
theorem table_iff (l:List EdP):tableE l=true ↔ MayP l/\NN l:=by
 have e:tableE l=(mayE l && (runsP l).all fun x=>decide (leastJ x.2 >= 0)):=by
  unfold tableE mayE eachP;rw[show tabJ=fun f=>mayJ f && decide (leastJ f >= 0) from rfl,eachR_and (fun f=>decide (leastJ f >= 0)),Bool.and_assoc]
 rw[e,Bool.and_eq_true,mayE_iff];refine and_congr_right fun h=>?_
 rw[runs_groups l (isC_rows h.can),List.all_eq_true]
 constructor
 ·intro ha r t
  by_cases hr:r ∈ rowsOf l
  ·exact (least_iff (h.jumps r)).1 (ODT (ha (r,jumpsOf l r) (List.mem_map.2 ⟨r,hr,rfl⟩))) t
  ·rw[jumpsOf_none l r (fun e he e1=>hr ((rowsOf_mem l r).2 ⟨e,he,e1⟩))];exact Int.le_refl _
 ·intro ha x hx
  obtain⟨r,_,rfl⟩:=List.mem_map.1 hx;exact DET ((least_iff (h.jumps r)).2 (ha r))
theorem val_split (r:List Vl) (t:Int):∀ l:List EdP,valI (jumpsOf l r) t=S (fun k=>if k.1=r/\k.2<=t then 1 else 0) (l.map pE)
 | []=>rfl
 | e :: es=>by
  rw[jumpsOf_cons,valI_append,val_split r t es]
  show _=(if e.f0=r/\e.f1<=t then 1 else 0)*e.f2+S _ (es.map pE)
  congr 1
  by_cases h:e.f0=r
  ·rw[if_pos h]
   show (if e.f1<=t then e.f2 else 0)+0=_
   by_cases h2:e.f1<=t
   ·rw[if_pos h2,if_pos ⟨h,h2⟩];omega
   ·rw[if_neg h2,if_neg (fun h3=>h2 h3.2)];omega
  ·rw[if_neg h,if_neg (fun h3=>h h3.1)];simp[valI]
theorem S_append (φ:KK->Int):∀ a b,S φ (a ++ b)=S φ a+S φ b
 | [],b=>by simp[S]
 | x :: xs,b=>by rw[List.cons_append,S,S,S_append φ xs b];omega
end Go.Proofs.YtmkgecapkeojaaaGreat.Eg
end
section
namespace Go.Proofs.YtmkgecapkeojaaaGreat.Eg
open PDa
open RowKit YtmkgecapkeojaaaGreatW.PrintWords YtmkgecapkeojaaaGreatW.PrintLast YtmkgecapkeojaaaGreatW.PrintMore
open SortM Run Stp Rw
theorem mul_bd (a b:Int) (h1 : -1073741824<=a) (h2:a<=1073741824) (h3 : -1073741824<=b) (h4:b<=1073741824) : -1152921504606846976<=a*b/\a*b<=1152921504606846976:=by
 have ha:a.natAbs<=1073741824:=by omega
 have hb:b.natAbs<=1073741824:=by omega
 have h:=Nat.mul_le_mul ha hb;rw[<- Int.natAbs_mul] at h;omega
def whereO (a b:Int):Int:=if b ≠ 0 then 0 else a
theorem mul1_calls (a b:Int) (w:World) (h1 : -1073741824<=a) (h2:a<=1073741824) (h3 : -1073741824<=b) (h4:b<=1073741824) :
  Calls Tryz.prog 145 #[.int .i64 a,.int .i64 b] w fun e w'=>e = .returned (.int .i64 (a*b))/\w=w':=by
 obtain⟨h5,h6⟩:=mul_bd a b h1 h2 h3 h4;have h7:IntKind.i64.wrap (a*b)=a*b:=by rw[IntKind.wrap_i64];omega
 clear h1 h2 h3 h4;go_enter Tryz.func145,Tryz.ntmps145;go_wp2;go_ret;exact⟨rfl,rfl⟩
theorem add1_calls (a b:Int) (w:World) (h1 : -1073741824<=a) (h2:a<=1073741824) (h3 : -1073741824<=b) (h4:b<=1073741824) :
  Calls Tryz.prog 155 #[.int .i64 a,.int .i64 b] w fun e w'=>e = .returned (.int .i64 (a+b))/\w=w':=by
 go_enter Tryz.func155,Tryz.ntmps155;go_wp2;go_ret;exact⟨rfl,rfl⟩
theorem where1_calls (a b:Int) (w:World):Calls Tryz.prog 124 #[.int .i64 a,.int .i64 b] w fun e w'=>e = .returned (.int .i64 (whereO a b))/\w=w':=by
 by_cases h:b=0
 ·have hv:=Hd (show whereO a b=a by unfold whereO;rw[if_neg (fun h2=>h2 h)])
  have q:(b != 0)=false:=by simpa using h
  clear h;go_enter Tryz.func124,Tryz.ntmps124;go_wp2;go_ret;exact⟨by rw[hv.out];rfl,rfl⟩
 ·have hv:=Hd (show whereO a b=0 by unfold whereO;rw[if_pos h])
  have q:(b != 0)=true:=by simpa using h
  clear h;go_enter Tryz.func124,Tryz.ntmps124;go_wp2;go_ret;exact⟨by rw[hv.out];rfl,rfl⟩
abbrev BothIs (F:Nat) (op:Int->Int->Int) (A0 A1:Option Addr) (c0 c1:Nat) (f g:List Jp) (w:World):Prop :=
 Calls Tryz.prog F #[.slice A0 f.length c0,.slice A1 g.length c1] w fun e w'=>∃ v,e = .returned (.tuple #[v,.int .i64 (bothV op f g).2])/\Kd.R kJ tJ w' w.heap.size (fun _=>True) v (bothV op f g).1/\Below w.heap.size w w'
theorem Mul_calls (A0 A1:Option Addr) (c0 c1:Nat) (f g:List Jp) (w:World) (hr0:Kd.C kJ w A0 f.length f) (hc0:f.length<=c0) (hr1:Kd.C kJ w A1 g.length g) (hc1:g.length<=c1):BothIs 97 (· * ·) A0 A1 c0 c1 f g w:=by
 have B:=Hd (both_calls (· * ·) 1152921504606846976 zq34 145 A0 A1 c0 c1 f g w hr0 hc0 hr1 hc1 (enters_of Tryz.func145 zq17 rfl) (fun a b w1 h1 h2 h3 h4=>mul1_calls a b w1 h1 h2 h3 h4) (fun a b h1 h2 h3 h4=>mul_bd a b h1 h2 h3 h4));clear hr0 hr1 hc0 hc1;go_enter Tryz.func97,Tryz.ntmps97
 go_wp2_with fail
 refine B.out.mono ?_;rintro e w1 ⟨v,rfl,hR,hb⟩;go_wp2;go_ret2;exact⟨v,rfl,hR,hb⟩
theorem stepAdd_calls (A0 A1:Option Addr) (c0 c1:Nat) (f g:List Jp) (w:World) (hr0:Kd.C kJ w A0 f.length f) (hc0:f.length<=c0) (hr1:Kd.C kJ w A1 g.length g) (hc1:g.length<=c1):BothIs 121 (· + ·) A0 A1 c0 c1 f g w:=by
 have B:=Hd (both_calls (· + ·) 2147483648 zq34 155 A0 A1 c0 c1 f g w hr0 hc0 hr1 hc1 (enters_of Tryz.func155 zq17 rfl) (fun a b w1 h1 h2 h3 h4=>add1_calls a b w1 h1 h2 h3 h4) (fun a b h1 h2 h3 h4=>by omega));clear hr0 hr1 hc0 hc1;go_enter Tryz.func121,Tryz.ntmps121
 go_wp2_with fail
 refine B.out.mono ?_;rintro e w1 ⟨v,rfl,hR,hb⟩;go_wp2;go_ret2;exact⟨v,rfl,hR,hb⟩
theorem Where_calls (A0 A1:Option Addr) (c0 c1:Nat) (f g:List Jp) (w:World) (hr0:Kd.C kJ w A0 f.length f) (hc0:f.length<=c0) (hr1:Kd.C kJ w A1 g.length g) (hc1:g.length<=c1):BothIs 81 whereO A0 A1 c0 c1 f g w:=by
 have B:=Hd (both_calls whereO 1073741824 zq34 124 A0 A1 c0 c1 f g w hr0 hc0 hr1 hc1 (enters_of Tryz.func124 zq17 rfl) (fun a b w1 h1 h2 h3 h4=>where1_calls a b w1) (fun a b h1 h2 h3 h4=>by unfold whereO;split <;> omega));clear hr0 hr1 hc0 hc1;go_enter Tryz.func81,Tryz.ntmps81
 go_wp2_with fail
 refine B.out.mono ?_;rintro e w1 ⟨v,rfl,hR,hb⟩;go_wp2;go_ret2;exact⟨v,rfl,hR,hb⟩
abbrev Rise (f:List Jp):Prop:=f.Pairwise fun x y=>x.f0<y.f0
theorem mAt_low {f g:List Jp} (hf:Rise f) (hg:Rise g):(∀ j ∈ f,mAt f g<=j.f0) /\ ∀ j ∈ g,mAt f g<=j.f0:=by
 have h1:∀ l:List Jp,Rise l -> ∀ j ∈ l,hdA l<=j.f0:=by
  intro l hl j hj;cases l with
  | nil=>cases hj
  | cons x xs =>
   rcases List.mem_cons.1 hj with rfl | hj
   ·exact Int.le_refl _
   ·have:=(List.pairwise_cons.1 hl).1 j hj;show x.f0<=j.f0;omega
 have h2:mAt f g<=hdA f:=by
  unfold mAt
  split
  ·exact Int.le_refl _
  ·split <;> omega
 refine⟨fun j hj=>by have:=h1 f hf j hj;omega,fun j hj=>?_⟩;have h3:=h1 g hg j hj;cases g with
 | nil=>cases hj
 | cons y ys =>
  have:mAt f (y :: ys)<=y.f0:=by unfold mAt;simp only;split <;> omega
  have h4:y.f0<=j.f0:=h3;omega
theorem popL_rise {f:List Jp} (h:Rise f) (t:Int):Rise (popL f t):=by
 unfold popL
 split
 ·exact h
 ·split
  ·exact (List.pairwise_cons.1 h).2
  ·exact h
theorem pop_val {f:List Jp} {z t:Int} (h:Rise f) (hz:∀ j ∈ f,z<=j.f0) (ht:z<=t):popA f z+valI (popL f z) t=valI f t:=by
 unfold popA popL;cases f with
 | nil=>simp[valI]
 | cons x xs =>
  simp only
  split
  ·rename_i c;rw[valI,if_pos zq4]
  ·omega
theorem pop_after {f:List Jp} {z:Int} (h:Rise f) (hz:∀ j ∈ f,z<=j.f0):∀ j ∈ popL f z,z<j.f0:=by
 unfold popL;cases f with
 | nil=>intro j hj;cases hj
 | cons x xs =>
  have h1:=List.pairwise_cons.1 h;simp only
  split
  ·rename_i c;intro j hj;have:=h1.1 j hj;omega
  ·rename_i c
   have h2:=hz x List.mem_cons_self;intro j hj
   rcases List.mem_cons.1 hj with rfl | hj
   ·omega
   ·have:=h1.1 j hj;omega
theorem stJ_val (z v was t:Int):valI (stJ z v was) t=if z<=t then v - was else 0:=by
 unfold stJ
 split
 ·simp[valI]
 ·rename_i c
  have:v=was:=by simpa using c
  simp[valI,this]
theorem both_val (op:Int->Int->Int) (t:Int):∀ (k:Nat) (f g:List Jp) (a b was:Int),Rise f->Rise g->In50 g->f.length+g.length<=k->was=op a b->valI (bothL op k f g a b was) t=op (a+valI f t) (b+valI g t) - was
 | 0,f,g,a,b,was,_,_,_,hk,hw=>by
  obtain rfl:f=[]:=List.eq_nil_of_length_eq_zero zq4;obtain rfl:g=[]:=List.eq_nil_of_length_eq_zero zq4;simp[bothL,valI,hw]
 | k+1,f,g,a,b,was,hf,hg,hi,hk,hw=>by
  rw[bothL]
  by_cases h0:f.length+g.length=0
  ·rw[if_pos h0]
   obtain rfl:f=[]:=List.eq_nil_of_length_eq_zero zq4;obtain rfl:g=[]:=List.eq_nil_of_length_eq_zero zq4;simp[valI,hw]
  ·rw[if_neg h0]
   have hlt:=pop_lt hi (f:=f) zq4;obtain⟨l1,l2⟩:=mAt_low hf hg;generalize mAt f g=z at *;rw[valI_append,stJ_val,both_val op t k _ _ _ _ _ (popL_rise hf z) (popL_rise hg z) (fun j hj=>hi j (popL_sub hj)) zq4 rfl]
   by_cases c:z<=t
   ·rw[if_pos c,Int.add_assoc,pop_val hf l1 c,Int.add_assoc,pop_val hg l2 c];omega
   ·have e1:=pop_after hf l1
    have e2:=pop_after hg l2;rw[if_neg c,valI_low (f:=popL f z) (fun j hj=>by have:=e1 j hj;omega),valI_low (f:=popL g z) (fun j hj=>by have:=e2 j hj;omega),valI_low (f:=f) (fun j hj=>by have:=l1 j hj;omega),valI_low (f:=g) (fun j hj=>by have:=l2 j hj;omega),hw];simp
theorem bothV_val {op:Int->Int->Int} (h0:op 0 0=0) {f g h:List Jp} (hh:bothV op f g=(h,0)):mayJ f=true/\mayJ g=true/\mayJ h=true /\ ∀ t,valI h t=op (valI f t) (valI g t):=by
 unfold bothV at hh
 by_cases c:(mayJ f && mayJ g)=true
 ·rw[if_pos c] at hh
  rw[Bool.and_eq_true] at c;unfold toldJ at hh
  by_cases c2:mayJ (bothL op (f.length+g.length) f g 0 0 0)=true
  ·rw[if_pos c2] at hh
   obtain rfl:bothL op (f.length+g.length) f g 0 0 0=h:=congrArg Prod.fst hh;refine⟨c.1,c.2,c2,fun t=>?_⟩;have pg:=mayJ_parts c.2;rw[both_val op t _ f g 0 0 0 (mayJ_parts c.1).2.2 pg.2.2 (fun j hj=>⟨(pg.2.1 j hj).2.1,okFair (pg.2.1 j hj).2.2.2⟩) (Nat.le_refl _) h0.symm];simp
  ·rw[if_neg c2] at hh;cases hh
 ·rw[if_neg c] at hh;cases hh
def joinV (a b:List Vl):List Vl × Int:=if (rowMay a && rowMay b)=true then (if 8<a.length+b.length then ([],6) else (a ++ b,0)) else ([],2)
theorem Join_calls (A0 A1:Option Addr) (c0 c1:Nat) (a b:List Vl) (w:World) (hr0:Kd.C kV w A0 a.length a) (hc0:a.length<=c0) (hr1:Kd.C kV w A1 b.length b) (hc1:b.length<=c1) :
  Calls Tryz.prog 98 #[.slice A0 a.length c0,.slice A1 b.length c1] w fun e w'=>∃ v,e = .returned (.tuple #[v,.int .i64 (joinV a b).2])/\Kd.R kV tV w' w.heap.size (fun _=>True) v (joinV a b).1/\Below w.heap.size w w':=by
 have hu39:Tryz.prog.underlying 39=some (.slice 65):=by kernel_rfl
 have MA:=Hd (row_May.calls A0 c0 a (rowMay a) w hr0 hc0 rfl);have MB:=Hd (fun (w1:World) (h:Below w.heap.size w w1)=>row_May.calls A1 c1 b (rowMay b) w1 (Kd.C_below hr1 h) hc1 rfl);have HR0:=Hd hr0;have HR1:=Hd hr1;clear hr0 hr1 hc0 hc1;cases hma:rowMay a with
 | false =>
  rw[hma] at MA;have HV:=Hd (show joinV a b=([],2) by unfold joinV;rw[hma];rfl);clear hma;go_enter Tryz.func98,Tryz.ntmps98
  go_wp2_with fail
  refine MA.out.mono ?_;rintro e w1 ⟨rfl,hb⟩;go_wp2;go_ret2;exact⟨.slice none 0 0,by rw[HV.out];rfl,by rw[HV.out];exact Kd.R_nil _ _ _ _ _,hb⟩
 | true =>
 rw[hma] at MA;cases hmb:rowMay b with
 | false =>
  rw[hmb] at MB;have HV:=Hd (show joinV a b=([],2) by unfold joinV;rw[hmb,Bool.and_false];rfl);clear hma hmb;go_enter Tryz.func98,Tryz.ntmps98
  go_wp2_with fail
  refine MA.out.mono ?_;rintro e w1 ⟨rfl,hb⟩;have HB:=Hd hb;clear hb
  go_wp2_with fail
  refine (MB.out w1 HB.out).mono ?_;rintro e w2 ⟨rfl,hb⟩;have HB2:=Hd (HB.out.trans (hb.mono HB.out.size));clear hb;go_wp2;go_ret2;exact⟨.slice none 0 0,by rw[HV.out];rfl,by rw[HV.out];exact Kd.R_nil _ _ _ _ _,HB2.out⟩
 | true =>
 rw[hmb] at MB;have la:=rowMay_len hma;have lb:=rowMay_len hmb
 by_cases h8:8<a.length+b.length
 ·have HV:=Hd (show joinV a b=([],6) by unfold joinV;rw[hma,hmb,if_pos h8];rfl)
  have q:decide ((a.length:Int)+(b.length:Int) > 8)=true:=DET zq4;have l1:(a.length:Int)<=8:=by omega
  have l2:(b.length:Int)<=8:=by omega
  clear hma hmb h8;go_enter Tryz.func98,Tryz.ntmps98
  go_wp2_with fail
  refine MA.out.mono ?_;rintro e w1 ⟨rfl,hb⟩;have HB:=Hd hb;clear hb
  go_wp2_with fail
  refine (MB.out w1 HB.out).mono ?_;rintro e w2 ⟨rfl,hb⟩;have HB2:=Hd (HB.out.trans (hb.mono HB.out.size));clear hb;go_wp2;go_ret2;exact⟨.slice none 0 0,by rw[HV.out];rfl,by rw[HV.out];exact Kd.R_nil _ _ _ _ _,HB2.out⟩
 ·have HV:=Hd (show joinV a b=(a ++ b,0) by unfold joinV;rw[hma,hmb,if_neg h8];rfl)
  have q:decide ((a.length:Int)+(b.length:Int) > 8)=false:=DEF zq4;have l1:(a.length:Int)<=8:=by omega
  have l2:(b.length:Int)<=8:=by omega
  have HLL:=Hd (show a.length<=8/\b.length<=8 from ⟨la,lb⟩);clear hma hmb h8 la lb;go_enter Tryz.func98,Tryz.ntmps98
  go_wp2_with fail
  refine MA.out.mono ?_;rintro e w1 ⟨rfl,hb⟩;have HB:=Hd hb;clear hb
  go_wp2_with fail
  refine (MB.out w1 HB.out).mono ?_;rintro e w2 ⟨rfl,hb⟩;have HB2:=Hd (HB.out.trans (hb.mono HB.out.size));have CC:=Hd (copy_calls A0 c0 a w2 (Kd.C_below HR0.out HB2.out) (by have:=HLL.out;omega));clear hb
  go_wp2_with fail
  refine CC.out.mono ?_;rintro e w3 ⟨vc,rfl,hRc,hb3⟩;have HB3:=Hd (HB2.out.trans (hb3.mono HB2.out.size));have HRC:=Hd (Kd.R_lower hRc HB2.out.size);have HRB:=Hd (Kd.C_below HR1.out HB3.out);clear hRc hb3 CC
  go_wp2_with (at_builtin;(refine Kd.R_append_rows kV (w0:=w) w.heap.size rfl _ _ 39 65 (.agg #[(.int .i64 0),(.int .i64 0),(.string ⟨#[]⟩)]) 32 rfl hu39 info65 rfl zq34 zq4 vc a b _ _ _ (fun _=>True) (fun _=>False) rfl rfl HRC.out HRB.out (fun _ _ h=>h) (fun _ h=>h.elim) (fun _ _=>trivial) HB3.out HB3.out.size ?aL ?_))
  case aL=>have:=HLL.out;omega
  intro v4 w4 ho hb hg hat;have HO4:=Hd ho;have HB4:=Hd hb;clear ho hb hg hat;go_wp2;go_ret2;exact⟨v4,by rw[HV.out];rfl,by rw[HV.out];exact HO4.out,HB4.out⟩
def partnerV (hh:List Vl->Bool × Int) (x y:List Vl × List Jp):Bool × Int :=
 if (bothV (· * ·) x.2 y.2).2 ≠ 0 then (false,(bothV (· * ·) x.2 y.2).2) else if (bothV (· * ·) x.2 y.2).1=[] then (false,0) else
 if (joinV x.1 y.1).2 ≠ 0 then (false,(joinV x.1 y.1).2) else hh (joinV x.1 y.1).1
theorem partner_calls (hh:List Vl->Bool × Int) (x y:List Vl × List Jp) (Aa Ab Af Ag A1:Option Addr) (ca cb cf cg c1:Nat) (ex:List Op8) (w:World)
  (ha:Kd.C kV w Aa x.1.length x.1/\x.1.length<=ca) (hb:Kd.R kV tV w 0 (fun _=>True) (.slice Ab y.1.length cb) y.1) (hf:Kd.C kJ w Af x.2.length x.2/\x.2.length<=cf) (hg:Kd.R kJ tJ w 0 (fun _=>True) (.slice Ag y.2.length cg) y.2)
  (hr1:Kd.C kO w A1 ex.length ex) (hc1:ex.length<=c1) (hhk:(joinV x.1 y.1).2=0 -> ∃ k,eval_Holds.f k ex (joinV x.1 y.1).1=some (hh (joinV x.1 y.1).1)) :
  Calls Tryz.prog 120 #[.slice Aa x.1.length ca,.slice Af x.2.length cf,.slice Ab y.1.length cb,.slice Ag y.2.length cg,.slice A1 ex.length c1] w fun e w'=>e = .returned (.tuple #[.bool (partnerV hh x y).1,.int .i64 (partnerV hh x y).2])/\Below w.heap.size w w':=by
 have MU:=Hd (fun (w1:World) (h:Below w.heap.size w w1)=>Mul_calls Af Ag cf cg x.2 y.2 w1 (Kd.C_below hf.1 h) hf.2 (Kd.R_reads' (Kd.R_below hg h)).2.2 (Kd.R_reads' hg).2.1);have JO:=Hd (fun (w1:World) (h:Below w.heap.size w w1)=>Join_calls Aa Ab ca cb x.1 y.1 w1 (Kd.C_below ha.1 h) ha.2 (Kd.R_reads' (Kd.R_below hb h)).2.2 (Kd.R_reads' hb).2.1);have HX:=Hd hr1;have HCX:=Hd hc1;have HHK:=Hd hhk;obtain⟨o,ho⟩:∃ o,partnerV hh x y=o:=⟨_,rfl⟩
 rw[ho];unfold partnerV at ho;obtain⟨⟨h,eh⟩,hmu⟩:∃ z,bothV (· * ·) x.2 y.2=z:=⟨_,rfl⟩
 obtain⟨⟨bo,ej⟩,hjo⟩:∃ z,joinV x.1 y.1=z:=⟨_,rfl⟩
 rw[hjo] at HHK;rw[hmu,hjo] at ho;have MU2:=Hd (fun w1 hh=>by have:=MU.out w1 hh;unfold BothIs at this;rw[hmu] at this;exact this);have JO2:=Hd (fun w1 hh=>by have:=JO.out w1 hh;rw[hjo] at this;exact this);obtain⟨na,hna⟩:∃ n,x.1.length=n:=⟨_,rfl⟩
 obtain⟨nb,hnb⟩:∃ n,y.1.length=n:=⟨_,rfl⟩
 obtain⟨nf,hnf⟩:∃ n,x.2.length=n:=⟨_,rfl⟩
 obtain⟨ng,hng⟩:∃ n,y.2.length=n:=⟨_,rfl⟩
 rw[hnf,hng] at MU2;rw[hna,hnb] at JO2;rw[hna,hnb,hnf,hng];have HO:=Hd ho;clear ha hb hf hg hr1 hc1 hhk ho hmu hjo hna hnb hnf hng MU JO;go_enter Tryz.func120,Tryz.ntmps120
 go_wp2_with fail
 refine (MU2.out w (Below.refl _ _)).mono ?_;rintro e w2 ⟨vh,rfl,hRh,hb2⟩;obtain⟨Ah,ch,rfl⟩:=Kd.R_slice hRh;have HB2:=Hd hb2;clear hb2 hRh MU2;simp only
 by_cases e1:eh=0
 case neg =>
  have q1:(eh != 0)=true:=by simpa using e1
  have HO2:=Hd (show o=(false,eh) by rw[<- HO.out];rw[if_pos e1]);clear e1;go_wp2;go_ret2;exact⟨by rw[HO2.out];rfl,HB2.out⟩
 case pos =>
 subst e1;obtain⟨nh,hnh⟩:∃ n,h.length=n:=⟨_,rfl⟩
 rw[hnh]
 by_cases e2:nh=0
 ·have q2:((nh:Int) == 0)=true:=by simpa using e2
  have hn:h=[]:=List.eq_nil_of_length_eq_zero zq4;have HO2:=Hd (show o=(false,0) by rw[<- HO.out];rw[if_neg zq30,if_pos hn]);clear e2 hn hnh;go_wp2;go_ret2;exact⟨by rw[HO2.out];rfl,HB2.out⟩
 have q2:((nh:Int) == 0)=false:=by simpa using e2
 have hn:¬ h=[]:=fun e=>e2 (by rw[<- hnh,e];rfl)
 have HO1:=Hd (show (if ej ≠ 0 then (false,ej) else hh bo)=o by have h9:=HO.out;rw[if_neg zq30,if_neg hn] at h9;exact h9);clear e2 hn HO hnh
 go_wp2_with fail
 refine (JO2.out w2 HB2.out).mono ?_;rintro e w3 ⟨vb,rfl,hRb,hb3⟩;obtain⟨Ab2,cb2,rfl⟩:=Kd.R_slice hRb;have HB3:=Hd (HB2.out.trans (hb3.mono HB2.out.size));have HRB:=Hd hRb;clear hRb hb3 JO2;simp only at HRB ⊢
 by_cases e3:ej=0
 case neg =>
  have q3:(ej != 0)=true:=by simpa using e3
  have HO2:=Hd (show o=(false,ej) by rw[<- HO1.out,if_pos e3]);clear e3;go_wp2;go_ret2;exact⟨by rw[HO2.out];rfl,HB3.out⟩
 case pos =>
 subst e3;have HEV:=Hd ((HHK.out rfl).elim fun k hk=>eval_Holds.calls k A1 c1 ex Ab2 cb2 bo _ _ w3 (Kd.C_below HX.out HB3.out) HCX.out (Kd.R_reads' HRB.out).2.2 (Kd.R_reads' HRB.out).2.1 hk);have HO2:=Hd (show hh bo=o by rw[<- HO1.out,if_neg zq30]);rw[HO2.out] at HEV;obtain⟨nb2,hnb2⟩:∃ n,bo.length=n:=⟨_,rfl⟩
 rw[hnb2] at HEV ⊢;clear hnb2 HHK HRB HO1
 go_wp2_with fail
 refine HEV.out.mono ?_;rintro e w4 ⟨rfl,hb4⟩;have HB4:=Hd (HB3.out.trans (hb4.mono HB3.out.size));clear hb4 HEV;go_wp2;go_ret2;exact⟨rfl,HB4.out⟩
def askV (hh:List Vl->Bool × Int) (x:List Vl × List Jp) (sum:List Jp) (y:List Vl × List Jp):List Jp × Int :=
 if (partnerV hh x y).2=0/\(partnerV hh x y).1=true then bothV (· + ·) sum y.2 else (sum,(partnerV hh x y).2)
theorem ask_calls (hh:List Vl->Bool × Int) (x y:List Vl × List Jp) (sum:List Jp) (Aa Ab Af Ag A1 As:Option Addr) (ca cb cf cg c1 cs:Nat) (ex:List Op8) (b4 b5 b7 b10 B0:Nat) (w:World)
  (ha:Kd.C kV w Aa x.1.length x.1/\x.1.length<=ca) (hb:Kd.R kV tV w 0 (fun _=>True) (.slice Ab y.1.length cb) y.1) (hf:Kd.C kJ w Af x.2.length x.2/\x.2.length<=cf) (hg:Kd.R kJ tJ w 0 (fun _=>True) (.slice Ag y.2.length cg) y.2)
  (hr1:Kd.C kO w A1 ex.length ex) (hc1:ex.length<=c1) (hhk:(joinV x.1 y.1).2=0 -> ∃ k,eval_Holds.f k ex (joinV x.1 y.1).1=some (hh (joinV x.1 y.1).1))
  (h4:Boxed w b4 39 (.slice Aa x.1.length ca)) (h5:Boxed w b5 43 (.slice Af x.2.length cf)) (h7:Boxed w b7 24 (.slice A1 ex.length c1)) (h10:Boxed w b10 43 (.slice As sum.length cs))
  (hs:Kd.R kJ tJ w B0 (fun _=>True) (.slice As sum.length cs) sum) (hB0:B0<=w.heap.size) :
  Calls Tryz.prog 119 #[.slice Ab y.1.length cb,.slice Ag y.2.length cg,.pointer (some ⟨b4,0,none⟩),.pointer (some ⟨b5,0,none⟩),.pointer (some ⟨b7,0,none⟩),.pointer (some ⟨b10,0,none⟩)] w fun e w'=>∃ A c,e = .returned (.int .i64 (askV hh x sum y).2)/\Boxed w' b10 43 (.slice A (askV hh x sum y).1.length c)/\Kd.R kJ tJ w' B0 (fun _=>True) (.slice A (askV hh x sum y).1.length c) (askV hh x sum y).1/\Step (fun b=>b=b10) (fun b=>b=b10) w w':=by
 have PC:=Hd (partner_calls hh x y Aa Ab Af Ag A1 ca cb cf cg c1 ex w ha hb hf hg hr1 hc1 hhk);have AD:=Hd (fun (w1:World) (h:Below w.heap.size w w1)=>stepAdd_calls As Ag cs cg sum y.2 w1 (Kd.R_reads' (Kd.R_below hs h)).2.2 (Kd.R_reads' hs).2.1 (Kd.R_reads' (Kd.R_below hg h)).2.2 (Kd.R_reads' hg).2.1);have HS:=Hd (fun (w1:World) (h:Below w.heap.size w w1)=>Kd.R_below hs h);have H10:=Hd h10;have HB0:=Hd hB0;have y4:=h4.cell;have y5:=h5.cell;have y7:=h7.cell;have Y10:=Hd (fun (w1:World) (h:Below w.heap.size w w1)=>Boxed.below h10 h);obtain⟨o,ho⟩:∃ o,askV hh x sum y=o:=⟨_,rfl⟩
 rw[ho];unfold askV at ho;obtain⟨⟨is,ep⟩,hp⟩:∃ z,partnerV hh x y=z:=⟨_,rfl⟩
 rw[hp] at ho PC;simp only at ho PC;obtain⟨⟨sn,ea⟩,had⟩:∃ z,bothV (· + ·) sum y.2=z:=⟨_,rfl⟩
 rw[had] at ho;have AD2:=Hd (fun w1 hh=>by have:=AD.out w1 hh;unfold BothIs at this;rw[had] at this;exact this);obtain⟨na,hna⟩:∃ n,x.1.length=n:=⟨_,rfl⟩
 obtain⟨nb,hnb⟩:∃ n,y.1.length=n:=⟨_,rfl⟩
 obtain⟨nf,hnf⟩:∃ n,x.2.length=n:=⟨_,rfl⟩
 obtain⟨ng,hng⟩:∃ n,y.2.length=n:=⟨_,rfl⟩
 obtain⟨ns,hns⟩:∃ n,sum.length=n:=⟨_,rfl⟩
 rw[hna,hnb,hnf,hng] at PC;rw[hng,hns] at AD2;rw[hna] at y4;rw[hnf] at y5;rw[hns] at Y10 HS;rw[hnb,hng];have HNS:=Hd hns;have HO:=Hd ho;clear ha hb hf hg hr1 hc1 hhk h4 h5 h7 h10 hs hB0 ho hp had hna hnb hnf hng hns AD;go_enter Tryz.func119,Tryz.ntmps119
 go_wp2_with fail
 refine PC.out.mono ?_;rintro e w1 ⟨rfl,hb1⟩;have HB1:=Hd hb1;have x1:=Y10.out w1 hb1;clear hb1 PC y4 y5 y7
 by_cases c:ep=0/\is=true
 ·obtain⟨rfl,rfl⟩:=c
  have HO2:=Hd (show o=(sn,ea) by have h:=HO.out;rw[if_pos ⟨rfl,rfl⟩] at h;exact h.symm);have c10:=x1.cell;clear HO
  go_wp2_with fail
  refine (AD2.out w1 HB1.out).mono ?_;rintro e w2 ⟨v,rfl,hR,hb2⟩;obtain⟨A,cv,rfl⟩:=Kd.R_slice hR;have HB2:=Hd (HB1.out.trans (hb2.mono HB1.out.size));have x10:=Boxed.below x1 hb2;have d10:=x10.cell;have g10:=x10.frozen;have hR:Kd.R kJ tJ w2 w1.heap.size (fun _=>True) (.slice A sn.length cv) sn:=hR;have HZ:=Hd (x10.set (.slice A sn.length cv));have HRZ:=Hd (Kd.R_set (Kd.R_lower hR (Nat.le_trans HB0.out HB1.out.size)) x10 zq34 0 (.slice A sn.length cv));have HST:=Hd ((Step.of_below (S:=fun b=>b=b10) HB2.out).trans (step_set (S:=fun b=>b=b10) rfl (.slice A sn.length cv)));clear hR hb2 AD2 c10 x10 x1;go_wp2;go_ret;exact⟨A,cv,by rw[HO2.out];rfl,by rw[HO2.out];exact HZ.out,by rw[HO2.out];exact HRZ.out,HST.out⟩
 ·have HO2:=Hd (show o=(sum,ep) by have h:=HO.out;rw[if_neg c] at h;exact h.symm)
  have HST:=Hd (Step.of_below (S:=fun b=>b=b10) HB1.out);have HR1:=Hd (HS.out w1 HB1.out);have HB10:=Hd x1;clear x1 HO
  by_cases c1:ep=0
  ·subst c1
   have c2:is=false:=by cases is with
    | false=>rfl
    | true=>exact absurd ⟨rfl,rfl⟩ c
   subst c2;clear c;go_wp2;go_ret;exact⟨As,cs,by rw[HO2.out];rfl,by rw[HO2.out];rw[HNS.out];exact HB10.out,by rw[HO2.out];rw[HNS.out];exact HR1.out,HST.out⟩
  ·have q1:(ep == 0)=false:=by simpa using c1
   clear c c1;go_wp2;go_ret;exact⟨As,cs,by rw[HO2.out];rfl,by rw[HO2.out];rw[HNS.out];exact HB10.out,by rw[HO2.out];rw[HNS.out];exact HR1.out,HST.out⟩
end Go.Proofs.YtmkgecapkeojaaaGreat.Eg
end
