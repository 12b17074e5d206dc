/- Texts of this claim, put together by a program: OpenS. -/
import Derived.Test.YtmkgecapkeojaaaGreatJ14
import Derived.Deep.Slices
import Derived.OpenShut
import Derived.Below
import Derived.SizedLaws
set_option linter.unusedVariables false
set_option linter.unusedSimpArgs false
set_option maxHeartbeats 8000000
set_option maxRecDepth 100000
section
namespace Go.Proofs.YtmkgecapkeojaaaGreat.Opz
open RowKit YtmkgecapkeojaaaGreatW.PrintWords YtmkgecapkeojaaaGreatW.PrintLast YtmkgecapkeojaaaGreatW.PrintMore
structure Opens {α:Type} (P:Program) (d:Kd α) (t:TypeId) (wf:α->Prop):Prop where
 sz:d.sz=P.cellsOf t
 get:∀ {H:Type} {enc:TypeId × Value->H} {W:World} {base:Nat} {spare:Nat->Bool} {held:Bool} {n:Nat} {cs:List Value} {y:DataW H × List MemPlace},
  DataW.trod enc P W base spare held n t cs=some y->(∀ q ∈ y.1.weights P t,q<=140737488351232) -> ∃ x,d.K W x cs/\wf x
theorem weights_all {H:Type} {P:Program} {e:TypeId} {d:DataW H} {q:Nat}:∀ {l:List (DataW H)},d ∈ l->q ∈ d.weights P e->q ∈ DataW.weightsAll P e l
 | [],hd,_=>by simp at hd
 | x :: xs,hd,hq=>by
  unfold DataW.weightsAll
  rcases List.mem_cons.1 hd with rfl | h
  ·exact List.mem_append_left _ hq
  ·exact List.mem_append_right _ (weights_all h hq)
theorem opens_int {P:Program} {t:TypeId} {k:IntKind} (ht:P.underlying t=some (.int k)) (hz:P.cellsOf t=1):Opens P (Kd.int k) t (fun n=>(Lit.int k n).wf=true):=by
 refine⟨by rw[hz];rfl,fun h hq=>?_⟩;obtain⟨n,rfl,_,hw⟩:=DataW.trod_int ht h;exact⟨n,rfl,hw⟩
theorem opens_string {P:Program} {t:TypeId} (ht:P.underlying t=some .string) (hz:P.cellsOf t=1):Opens P Kd.string t (fun s=>s.size<=140737488351232):=by
 refine⟨by rw[hz];rfl,fun h hq=>?_⟩;obtain⟨n,rfl,hx,hw⟩:=DataW.trod_string ht h;refine⟨n,rfl,?_⟩;have:=hq n.data.toList.length (by rw[hx];simp[DataW.weights]);rw[Array.length_toList] at this;exact this
structure OpensF {α:Type} (P:Program) (d:Kd α) (fs:List Field) (off:Nat) (wf:α->Prop):Prop where
 get:∀ {H:Type} {enc:TypeId × Value->H} {W:World} {base:Nat} {spare:Nat->Bool} {held:Bool} {n:Nat} {cs:List Value},cs.length=off+d.sz ->
  (∀ (j:Nat) (f:Field),fs[j]? = some f -> ∃ y,DataW.trod enc P W base spare held n f.type ((cs.drop f.offset).take (P.cellsOf f.type))=some y /\ ∀ q ∈ y.1.weights P f.type,q<=140737488351232) -> ∃ x,d.K W x (cs.drop off)/\wf x
theorem opensF_last {α:Type} {P:Program} {d:Kd α} {f:Field} {off:Nat} {wf:α->Prop} (h:Opens P d f.type wf) (ho:f.offset=off):OpensF P d [f] off wf:=by
 refine⟨fun {H enc W base spare held n cs} hl hf=>?_⟩;obtain⟨y,hy,hyq⟩:=hf 0 f rfl;obtain⟨x,hx,hw⟩:=h.get hy hyq;refine⟨x,?_,hw⟩;rw[ho,List.take_of_length_le (by rw[List.length_drop,hl, <- h.sz];omega)] at hx;exact hx
theorem opensF_cons {α β:Type} {P:Program} {a:Kd α} {b:Kd β} {f:Field} {fs:List Field} {off:Nat} {wa:α->Prop} {wb:β->Prop} (h:Opens P a f.type wa) (ho:f.offset=off) (hs:OpensF P b fs (off+a.sz) wb) :
  OpensF P (Kd.pair a b) (f :: fs) off (fun x=>wa x.1/\wb x.2):=by
 refine⟨fun {H enc W base spare held n cs} hl hf=>?_⟩;have hl':cs.length=off+(a.sz+b.sz):=hl;obtain⟨y,hy,hyq⟩:=hf 0 f rfl;obtain⟨x,hx,hw⟩:=h.get hy hyq;obtain⟨z,hz,hwz⟩:=hs.get (cs:=cs) zq4 (fun j g hg=>hf (j+1) g hg);refine⟨(x,z),⟨(cs.drop off).take a.sz,cs.drop (off+a.sz),?_,?_,hz⟩,hw,hwz⟩
 ·rw[<- List.drop_drop,List.take_append_drop]
 ·rw[ho, <- h.sz] at hx
  exact hx
theorem opens_struct {α β:Type} {P:Program} {d:Kd α} {t:TypeId} {fs:Array Field} {wf:α->Prop} {g:β->α} (gi:α->β) (hg:∀ x,g (gi x)=x) (ht:P.underlying t=some (.struct fs)) (hz:P.cellsOf t=d.sz) (h:OpensF P d fs.toList 0 wf) :
  Opens P (Kd.iso d g) t (fun x=>wf (g x)):=by
 refine⟨hz.symm,fun {H enc W base spare held n cs y} hy hq=>?_⟩;obtain⟨xs,m,_,rfl,hl,hlen,hf⟩:=DataW.trod_struct ht hy;obtain⟨x,hx,hw⟩:=h.get (enc:=enc) (W:=W) (base:=base) (spare:=spare) (held:=held) (n:=m) (cs:=cs) (by rw[hl,hz];omega) (fun j f hj=>by
  have hj':fs[j]? = some f:=by rw[<- Array.getElem?_toList];exact hj
  have hlt:j<xs.length:=by
   rw[hlen]
   rcases Nat.lt_or_ge j fs.size with c | c
   ·exact c
   ·rw[Array.getElem?_eq_none c] at hj';simp at hj'
  refine⟨_,(hf j f hj').trans (List.getElem?_eq_getElem hlt),fun q hq'=>?_⟩;refine hq q ?_
  show q ∈ DataW.weights P t (.agg (xs.map (·.1)))
  unfold DataW.weights;rw[ht];exact DataW.weights_mem_each (j:=j) (t:=f.type) (d:=xs[j].1) (by rw[List.getElem?_map,hj];rfl) (by rw[List.getElem?_map,List.getElem?_eq_getElem hlt];rfl) q hq')
 refine⟨gi x,?_,by rw[hg];exact hw⟩
 show d.K W (g (gi x)) cs
 rw[hg];exact hx
theorem cells_get {w:World} {base:Nat} {a:Addr} {n:Nat} {cs:List Value} (h:w.cells? base a n=some cs) (i:Nat) (u:Value) (hi:cs[i]? = some u):w.cell? (a.add i)=some u:=by
 obtain⟨_,hl,hc⟩:=World.cells?_some h;have hlt:i<n:=by
  rcases Nat.lt_or_ge i cs.length with c | c
  ·omega
  ·rw[List.getElem?_eq_none c] at hi;simp at hi
 exact (hc i hlt).trans hi
theorem add_add_ (a:Addr) (x y:Nat):(a.add x).add y=a.add (x+y):=by
 unfold Addr.add
 by_cases hx:x=0
 ·subst hx;simp
 ·by_cases hy:y=0
  ·subst hy;simp
  ·rw[if_neg hx,if_neg hy,if_neg zq4]
   simp[Nat.add_assoc]
theorem choose_list {α:Type} (Q:Nat->α->Prop):∀ len,(∀ i,i<len -> ∃ x,Q i x) -> ∃ xs:List α,xs.length=len /\ ∀ i x,xs[i]? = some x->Q i x
 | 0,_=>⟨[],rfl,by simp⟩
 | k+1,h=>by
  obtain⟨xs,hxl,hxs⟩:=choose_list Q k (fun i hi=>h i zq4);obtain⟨x,hx⟩:=h k zq4;refine⟨xs ++ [x],by simp[hxl],fun i z hz=>?_⟩
  rcases Nat.lt_or_ge i xs.length with hi | hi
  ·rw[List.getElem?_append_left hi] at hz
   exact hxs i z hz
  ·rw[List.getElem?_append_right hi] at hz
   have:i=k:=by
    rcases Nat.lt_or_ge (i - xs.length) 1 with h | h
    ·omega
    ·rw[List.getElem?_eq_none (by simpa using h)] at hz;simp at hz
   subst this;rw[hxl,Nat.sub_self] at hz;simp at hz;subst hz;exact hx
theorem opens_slice {α:Type} {P:Program} {d:Kd α} {t e:TypeId} {wf:α->Prop} (ht:P.underlying t=some (.slice e)) (hz:P.cellsOf t=1) (h:Opens P d e wf):Opens P (Kd.slice e d) t (fun xs=>(∀ x ∈ xs,wf x)/\xs.length*P.bytesOf e<=140737488351232):=by
 refine⟨by rw[hz];rfl,fun {H enc W base spare held n cs y} hy hq=>?_⟩
 rcases Go.Deep.open_slice ht hy with ⟨rfl,_⟩ | ⟨a,len,cap,m,n,D,Pl,rfl,hb,hl,hm,hmm,rfl,hx⟩
 ·exact⟨[],⟨none,0,rfl,Nat.le_refl _,rfl,by simp,fun h=>absurd h zq30⟩,by simp,by simp⟩
 have hlm:len<=m:=by rw[hmm];split <;> omega
 have each:∀ i,i<len -> ∃ x, ∃ c,d.K W x c/\wf x/\c.length=d.sz /\ ∀ j u,c[j]? = some u->W.cell? (a.add (i*d.sz+j))=some u:=by
  intro i hi;obtain⟨cs',h1,h2⟩:=hx i zq4;obtain⟨x,hk,hw⟩:=h.get h2 (fun q hq'=>hq q (by
   show q ∈ DataW.weights P t (.slice ((List.range len).map D) ((List.range (m - len)).map fun j=>D (len+j)))
   unfold DataW.weights;rw[ht];exact List.mem_cons_of_mem _ (List.mem_append_left _ (weights_all (List.mem_map.2 ⟨i,List.mem_range.2 hi,rfl⟩) hq'))))
  refine⟨x,cs',hk,hw,d.K_len hk,fun j u hj=>?_⟩;have:=cells_get h1 j u hj;rw[<- h.sz,add_add_] at this;exact this
 obtain⟨xs,rfl,hxs⟩:=choose_list (fun i x=>∃ c,d.K W x c/\wf x/\c.length=d.sz /\ ∀ j u,c[j]? = some u->W.cell? (a.add (i*d.sz+j))=some u) len each;refine⟨xs,⟨some a,cap,rfl,hl,rfl,by unfold maxLen at hm;omega,fun _=>⟨a,rfl,fun j p hj=>?_⟩⟩,fun x hx'=>?_,?_⟩
 ·obtain⟨c,hk,_,hcl,hcc⟩:=hxs j p hj
  exact⟨c,hcl,hk,hcc⟩
 ·obtain⟨i,hi,rfl⟩:=List.mem_iff_getElem.1 hx'
  obtain⟨c,_,hw,_⟩:=hxs i _ (List.getElem?_eq_getElem hi);exact hw
 ·have:=hq ((xs.length+(m - xs.length))*P.bytesOf e) (by
   show _ ∈ DataW.weights P t (.slice ((List.range xs.length).map D) ((List.range (m - xs.length)).map fun j=>D (xs.length+j)))
   unfold DataW.weights;rw[ht];simp)
  exact Nat.le_trans (Nat.mul_le_mul_right _ (Nat.le_add_right _ _)) this
end Go.Proofs.YtmkgecapkeojaaaGreat.Opz
end
