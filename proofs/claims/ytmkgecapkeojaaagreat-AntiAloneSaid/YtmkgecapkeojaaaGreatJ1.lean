/- Texts of this claim, put together by a program: Sq, WFour, WFootNe, WAt, WEqStruct, WRepsOne, WInv, WInvWords, WGuard. -/
import Derived.Test.YtmkgecapkeojaaaGreatJ0
import Derived.Laws.StructEq
set_option linter.unusedVariables false
set_option linter.unusedSimpArgs false
set_option maxHeartbeats 8000000
set_option maxRecDepth 100000
section
namespace Go.Proofs.YtmkgecapkeojaaaGreatW.PrintMore
open Go.RowKit Go.Proofs.YtmkgecapkeojaaaGreatW.PrintWords Go.Proofs.YtmkgecapkeojaaaGreatW.PrintLast
section
variable {P:Program} {ops:Array Oper} {Q:Exit->Act->World->Prop} {md:Region.Mode} {S:World->Prop} {ds:List Nat} {T:Bool × List (List Nat × List Nat)} {B:List Nat}
theorem pZ (i n:Nat) {oi:Oper} {v:Value} {fuel:Nat} {l l':Array Bool} {a a':Act} {w:World} (h:wpAnyLast P md ops Q S ds fuel l' a' w)
  (hT:Aside0 (rtab md ops=T):=by exact HT_) (hi:ops[i]? = some oi:=by rfl) (hN:oi.dst=some n:=by rfl) (_hl:l.setIfInBounds i true=l':=by (simp only[List.setIfInBounds_toArray,List.set_cons_zero,List.set_cons_succ];rfl))
  (hc:anyT T l.toList l'.toList i=true:=by kernel_rfl) (hQ:∀ c a w,Q (.panic c) (a.put oi.dst v) w->Q (.panic c) a w:=by exact fun _ _ _ h=>h)
  (hw:Region.wanted oi (yielded ops a.tmps)=true:=by rfl) (hr:∀ w,(execOp a.eval oi).run P w = .ok (.value v) w:=by (intro w';go_simp;with_reducible rfl))
  (ha:a.put (some n) v=a':=by (simp only[Act.put,List.setIfInBounds_toArray,List.set_cons_zero,List.set_cons_succ,i64_w,i32_w];rfl)):wpAnyLast P md ops Q S ds (fuel+1) l a w :=
 pure_ (i:=i) l' hi hN (any_of hT.out hc) hQ (Or.inl ⟨hw,hr⟩) ha h
theorem tZ2 (i n:Nat) {oi:Oper} {v:Value} {fuel:Nat} {l l':Array Bool} {a a':Act} {w:World} (h:wpAnyLast P md ops Q S ds fuel l' a' w) (hS:S w:=by exact hHeld) (hT:Aside0 (rtab md ops=T):=by exact HT_) (hW:Aside0 (waitsOk T.2 B=true):=by exact HW_) (hi:ops[i]? = some oi:=by rfl) (hN:oi.dst=some n:=by rfl) (_hl:l.setIfInBounds i true=l':=by (simp only[List.setIfInBounds_toArray,List.set_cons_zero,List.set_cons_succ];rfl)) (hc:takeW T B ds l.toList l'.toList i=true:=by kernel_rfl) (hQ:∀ c a w,Q (.panic c) (a.put oi.dst v) w->Q (.panic c) a w:=by exact fun _ _ _ h=>h) (hw:Region.wanted oi (yielded ops a.tmps)=true:=by rfl) (hr:∀ w,S w->(execOp a.eval oi).run P w = .ok (.value v) w:=by (rintro w' ⟨s0,s1⟩;go_simp;with_reducible rfl)) (ha:a.put (some n) v=a':=by (simp only[Act.put,List.setIfInBounds_toArray,List.set_cons_zero,List.set_cons_succ,i64_w,i32_w];rfl)):wpAnyLast P md ops Q S ds (fuel+1) l a w :=
 take_ (i:=i) l' hi hN (take_ofW hT.out hW.out hc) hQ (Or.inl ⟨hw,hr⟩) hS ha h
theorem tZ3 (i n:Nat) {oi:Oper} {v:Value} {fuel:Nat} {l l':Array Bool} {a a':Act} {w:World} (h:wpAnyLast P md ops Q S ds fuel l' a' w) (hS:S w:=by exact hHeld) (hT:Aside0 (rtab md ops=T):=by exact HT_) (hW:Aside0 (waitsOk T.2 B=true):=by exact HW_) (hi:ops[i]? = some oi:=by rfl) (hN:oi.dst=some n:=by rfl) (_hl:l.setIfInBounds i true=l':=by (simp only[List.setIfInBounds_toArray,List.set_cons_zero,List.set_cons_succ];rfl)) (hc:takeW T B ds l.toList l'.toList i=true:=by kernel_rfl) (hQ:∀ c a w,Q (.panic c) (a.put oi.dst v) w->Q (.panic c) a w:=by exact fun _ _ _ h=>h) (hw:Region.wanted oi (yielded ops a.tmps)=true:=by rfl) (hr:∀ w,S w->(execOp a.eval oi).run P w = .ok (.value v) w:=by (rintro w' ⟨s0,s1,s2⟩;go_simp;with_reducible rfl)) (ha:a.put (some n) v=a':=by (simp only[Act.put,List.setIfInBounds_toArray,List.set_cons_zero,List.set_cons_succ,i64_w,i32_w];rfl)):wpAnyLast P md ops Q S ds (fuel+1) l a w :=
 take_ (i:=i) l' hi hN (take_ofW hT.out hW.out hc) hQ (Or.inl ⟨hw,hr⟩) hS ha h
theorem tZ4 (i n:Nat) {oi:Oper} {v:Value} {fuel:Nat} {l l':Array Bool} {a a':Act} {w:World} (h:wpAnyLast P md ops Q S ds fuel l' a' w) (hS:S w:=by exact hHeld) (hT:Aside0 (rtab md ops=T):=by exact HT_) (hW:Aside0 (waitsOk T.2 B=true):=by exact HW_) (hi:ops[i]? = some oi:=by rfl) (hN:oi.dst=some n:=by rfl) (_hl:l.setIfInBounds i true=l':=by (simp only[List.setIfInBounds_toArray,List.set_cons_zero,List.set_cons_succ];rfl)) (hc:takeW T B ds l.toList l'.toList i=true:=by kernel_rfl) (hQ:∀ c a w,Q (.panic c) (a.put oi.dst v) w->Q (.panic c) a w:=by exact fun _ _ _ h=>h) (hw:Region.wanted oi (yielded ops a.tmps)=true:=by rfl) (hr:∀ w,S w->(execOp a.eval oi).run P w = .ok (.value v) w:=by (rintro w' ⟨s0,s1,s2,s3⟩;go_simp;with_reducible rfl)) (ha:a.put (some n) v=a':=by (simp only[Act.put,List.setIfInBounds_toArray,List.set_cons_zero,List.set_cons_succ,i64_w,i32_w];rfl)):wpAnyLast P md ops Q S ds (fuel+1) l a w :=
 take_ (i:=i) l' hi hN (take_ofW hT.out hW.out hc) hQ (Or.inl ⟨hw,hr⟩) hS ha h
theorem tZ6 (i n:Nat) {oi:Oper} {v:Value} {fuel:Nat} {l l':Array Bool} {a a':Act} {w:World} (h:wpAnyLast P md ops Q S ds fuel l' a' w) (hS:S w:=by exact hHeld) (hT:Aside0 (rtab md ops=T):=by exact HT_) (hW:Aside0 (waitsOk T.2 B=true):=by exact HW_) (hi:ops[i]? = some oi:=by rfl) (hN:oi.dst=some n:=by rfl) (_hl:l.setIfInBounds i true=l':=by (simp only[List.setIfInBounds_toArray,List.set_cons_zero,List.set_cons_succ];rfl)) (hc:takeW T B ds l.toList l'.toList i=true:=by kernel_rfl) (hQ:∀ c a w,Q (.panic c) (a.put oi.dst v) w->Q (.panic c) a w:=by exact fun _ _ _ h=>h) (hw:Region.wanted oi (yielded ops a.tmps)=true:=by rfl) (hr:∀ w,S w->(execOp a.eval oi).run P w = .ok (.value v) w:=by (rintro w' ⟨s0,s1,s2,s3,s4,s5⟩;go_simp;with_reducible rfl)) (ha:a.put (some n) v=a':=by (simp only[Act.put,List.setIfInBounds_toArray,List.set_cons_zero,List.set_cons_succ,i64_w,i32_w];rfl)):wpAnyLast P md ops Q S ds (fuel+1) l a w :=
 take_ (i:=i) l' hi hN (take_ofW hT.out hW.out hc) hQ (Or.inl ⟨hw,hr⟩) hS ha h
theorem tZ8 (i n:Nat) {oi:Oper} {v:Value} {fuel:Nat} {l l':Array Bool} {a a':Act} {w:World} (h:wpAnyLast P md ops Q S ds fuel l' a' w) (hS:S w:=by exact hHeld) (hT:Aside0 (rtab md ops=T):=by exact HT_) (hW:Aside0 (waitsOk T.2 B=true):=by exact HW_) (hi:ops[i]? = some oi:=by rfl) (hN:oi.dst=some n:=by rfl) (_hl:l.setIfInBounds i true=l':=by (simp only[List.setIfInBounds_toArray,List.set_cons_zero,List.set_cons_succ];rfl)) (hc:takeW T B ds l.toList l'.toList i=true:=by kernel_rfl) (hQ:∀ c a w,Q (.panic c) (a.put oi.dst v) w->Q (.panic c) a w:=by exact fun _ _ _ h=>h) (hw:Region.wanted oi (yielded ops a.tmps)=true:=by rfl) (hr:∀ w,S w->(execOp a.eval oi).run P w = .ok (.value v) w:=by (rintro w' ⟨s0,s1,s2,s3,s4,s5,s6,s7⟩;go_simp;with_reducible rfl)) (ha:a.put (some n) v=a':=by (simp only[Act.put,List.setIfInBounds_toArray,List.set_cons_zero,List.set_cons_succ,i64_w,i32_w];rfl)):wpAnyLast P md ops Q S ds (fuel+1) l a w :=
 take_ (i:=i) l' hi hN (take_ofW hT.out hW.out hc) hQ (Or.inl ⟨hw,hr⟩) hS ha h
theorem oZ (i n:Nat) {oi:Oper} {fuel:Nat} {l l':Array Bool} {a:Act} {w:World}
  (h:∀ K:Act->World->Prop,Shut (∀ a' w',S w'->(S w'->wpAnyLast P md ops Q S ds fuel l' a' w')->K a' w')->if Region.wanted oi (yielded ops a.tmps)=true then Oper.wp P oi a w K Q else K (a.put (some n) undef) w)
  (hT:Aside0 (rtab md ops=T):=by exact HT_) (hi:ops[i]? = some oi:=by rfl) (hN:oi.dst=some n:=by rfl) (_hl:l.setIfInBounds i true=l':=by (simp only[List.setIfInBounds_toArray,List.set_cons_zero,List.set_cons_succ];rfl))
  (hc:(readyT T.2 l.toList == [i] && l.toList.set i true == l'.toList)=true:=by kernel_rfl) (hd:i ∉ ds:=by decide):wpAnyLast P md ops Q S ds (fuel+1) l a w :=
 one_ (i:=i) l' hi hN (one_of hT.out hc) hd h
theorem nZ (n:Nat) {v:Value} {fuel:Nat} {l:Array Bool} {a a':Act} {w:World} (h:wpAnyLast P md ops Q S ds fuel l a' w)
  (ha:Act.put a (some n) v=a':=by (simp only[Act.put,List.setIfInBounds_toArray,List.set_cons_zero,List.set_cons_succ,i64_w,i32_w];rfl)):wpAnyLast P md ops Q S ds fuel l (Act.put a (some n) v) w:=by
 subst ha;exact h
theorem gY {oi:Oper} {N:Option Tmp} {a:Act} {w:World} {K:Act->World->Prop} {f:FuncId} {fn:Func} (hf:P.funcs[f]? = some fn) {as:Array Operand} {ts:Array TypeId} (args:Array Value)
  (h:Calls P f args w fun e w'=>∃ v,e = .returned v/\K (a.put N v) w') (hop:oi.op = .call { callee:=.value (.func f),args:=as,argTypes:=ts }:=by rfl)
  (hw : Region.wanted oi (yielded ops a.tmps) = true := by rfl) (hN : oi.dst = N := by rfl) (hname : (fn.name == "runtime.NumGoroutine") = false := by kernel_rfl) (hb : fn.body.isSome = true := by rfl)
  (hargs:as.map a.eval=args:=by (try simp only[List.map_toArray,List.map_cons,List.map_nil]);first | done | rfl | (simp only[List.length_drop,List.length_take];rfl)):if Region.wanted oi (yielded ops a.tmps)=true then Oper.wp P oi a w K Q else K (a.put N undef) w :=
 goes_ hf hname hb args hw hN hop hargs h
theorem gZ (n:Nat) {rest:List Oper} {oi:Oper} {a:Act} {w:World} {f:FuncId} {fn:Func} (hf:P.funcs[f]? = some fn) {as:Array Operand} {ts:Array TypeId} (args:Array Value)
  (h:Calls P f args w fun e w'=>∃ v,e = .returned v/\wpList P ops Q rest (a.put (some n) v) w') (hd:oi.dst=some n:=by rfl) (hg:oi.guard=none:=by rfl) (hop:oi.op = .call { callee:=.value (.func f),args:=as,argTypes:=ts }:=by rfl)
  (hname : (fn.name == "runtime.NumGoroutine") = false := by kernel_rfl) (hb : fn.body.isSome = true := by rfl)
  (hargs:as.map a.eval=args:=by (try simp only[List.map_toArray,List.map_cons,List.map_nil]);first | done | rfl | (simp only[List.length_drop,List.length_take];rfl)):wpList P ops Q (oi :: rest) a w :=
 goesL_ (some n) hd hg hf hname hb args hop hargs h
theorem bZ (n:Tmp) {rest:List Oper} {o:Oper} {a:Act} {W:World} (cs:Array Value) (t:TypeId)
  (h:∀ g,g=W.heap.size -> ∀ w1,w1.heap[g]? = some (.cells cs t (0,0))->Below W.heap.size W w1->wpList P ops Q rest (a.put o.dst (.pointer (some ⟨g,0,none⟩))) w1)
  (hgd:o.guard=none:=by rfl) (hd:o.dst=some n:=by rfl) (hrun:(execOp a.eval o).run P W = .ok (.value (.pointer (some ⟨W.heap.size,0,none⟩))) (W.alloc (.cells cs t (0,0))):=by first | (go_simp;done) | (go_simp;rfl)):wpList P ops Q (o :: rest) a W :=
 box_event hgd hd hrun h
end
section
variable {w w1 w2:World}
theorem hZ {p:Addr} {v:Value} (hc:w.cell? p=some v) (h:Below w.heap.size w w1) (hb:Below w1.heap.size w1 w2:=by repeat (first | with_reducible exact Below.refl _ _ | apply below_alloc | apply pw_below_drewN | apply below_drew1)):w2.cell? p=some v:=(hb.cell (World.block_lt_of_cell? w1 _ ((h.cell (World.block_lt_of_cell? w _ hc)).trans hc))).trans ((h.cell (World.block_lt_of_cell? w _ hc)).trans hc)
theorem BB (h:Aside0 (Below w.heap.size w w1)) {w3:World} (k:Below w2.heap.size w2 w3) (hb:Below w1.heap.size w1 w2:=by repeat (first | with_reducible exact Below.refl _ _ | apply below_alloc | apply pw_below_drewN | apply below_drew1)):Aside0 (Below w.heap.size w w3):=⟨below_step (below_step h.out hb) k⟩
theorem GB (h:Aside0 (Below w.heap.size w w1)) {g:Nat} (hg:g=w2.heap.size) (hb:Below w1.heap.size w1 w2:=by repeat (first | with_reducible exact Below.refl _ _ | apply below_alloc | apply pw_below_drewN | apply below_drew1)):Aside0 (w.heap.size<=g):=⟨by rw[hg];exact (below_step h.out hb).size⟩
theorem KB {g:Nat} {o:Obj} (h:Aside0 (w.heap[g]? = some o)) {w3:World} (k:Below w1.heap.size w1 w3) (hb:Below w.heap.size w w1:=by repeat (first | with_reducible exact Below.refl _ _ | apply below_alloc | apply pw_below_drewN | apply below_drew1)):Aside0 (w3.heap[g]? = some o):=⟨blk_below (blk_below h.out hb) k⟩
theorem LB {g g':Nat} {o:Obj} (h:Aside0 (w.heap[g]? = some o)) (hg:g'=w1.heap.size) (hb:Below w.heap.size w w1:=by repeat (first | with_reducible exact Below.refl _ _ | apply below_alloc | apply pw_below_drewN | apply below_drew1)):Aside0 (g ≠ g'):=⟨by rw[hg];exact Nat.ne_of_lt (blk_lt (blk_below h.out hb))⟩
theorem MB {g g':Nat} {o:Obj} (h:Aside0 (w.heap[g]? = some o)) (hg:g'=w1.heap.size) (hb:Below w.heap.size w w1:=by repeat (first | with_reducible exact Below.refl _ _ | apply below_alloc | apply pw_below_drewN | apply below_drew1)):Aside0 (g' ≠ g):=⟨by rw[hg];exact Nat.ne_of_gt (blk_lt (blk_below h.out hb))⟩
theorem bL2 {g:Nat} {t:TypeId} {v0 v1:Value} (h:Aside0 (w.heap[g]? = some (.cells #[v0,v1] t (0,0)))):w.cell? ⟨g,0,none⟩=some v0/\w.cell? ⟨g,1,none⟩=some v1/\w.frozen? ⟨g,0,none⟩=false/\w.frozen? ⟨g,1,none⟩=false:=⟨(blk_cell h.out 0).trans rfl,(blk_cell h.out 1).trans rfl,blk_frozen h.out 0,blk_frozen h.out 1⟩
theorem bL3 {g:Nat} {t:TypeId} {v0 v1 v2:Value} (h:Aside0 (w.heap[g]? = some (.cells #[v0,v1,v2] t (0,0)))):w.cell? ⟨g,0,none⟩=some v0/\w.cell? ⟨g,1,none⟩=some v1/\w.cell? ⟨g,2,none⟩=some v2/\w.frozen? ⟨g,0,none⟩=false/\w.frozen? ⟨g,1,none⟩=false/\w.frozen? ⟨g,2,none⟩=false:=⟨(blk_cell h.out 0).trans rfl,(blk_cell h.out 1).trans rfl,(blk_cell h.out 2).trans rfl,blk_frozen h.out 0,blk_frozen h.out 1,blk_frozen h.out 2⟩
variable {α:Type} {d:Kd α} {e:TypeId} {base:Nat} {ok:Nat->Prop} {v:Value} {xs:List α}
theorem rQ (h:Kd.R d e w base ok v xs) (hb:Below w.heap.size w w1:=by repeat (first | with_reducible exact Below.refl _ _ | apply below_alloc | apply pw_below_drewN | apply below_drew1)):Kd.R d e w1 base ok v xs:=Kd.R_below h hb
theorem vQ (h:Kd.V d e w base ok v xs) (hb:Below w.heap.size w w1:=by repeat (first | with_reducible exact Below.refl _ _ | apply below_alloc | apply pw_below_drewN | apply below_drew1)):Kd.V d e w1 base ok v xs:=Kd.V_below h hb
theorem cQ {A:Option Addr} {n:Nat} (h:Kd.C d w A n xs) (hb:Below w.heap.size w w1:=by repeat (first | with_reducible exact Below.refl _ _ | apply below_alloc | apply pw_below_drewN | apply below_drew1)):Kd.C d w1 A n xs:=Kd.C_below h hb
theorem NB (h:Aside0 (Kd.N d e w base ok v xs)) (k:Below w1.heap.size w1 w2) (hb:Below w.heap.size w w1:=by repeat (first | with_reducible exact Below.refl _ _ | apply below_alloc | apply pw_below_drewN | apply below_drew1)):Aside0 (Kd.N d e w2 base ok v xs):=⟨Kd.N_below (Kd.N_below h.out hb) k⟩
theorem RB (h:Aside0 (Kd.R d e w base ok v xs)) (k:Below w1.heap.size w1 w2) (hb:Below w.heap.size w w1:=by repeat (first | with_reducible exact Below.refl _ _ | apply below_alloc | apply pw_below_drewN | apply below_drew1)):Aside0 (Kd.R d e w2 base ok v xs):=⟨Kd.R_below (Kd.R_below h.out hb) k⟩
theorem CB {A:Option Addr} {n:Nat} (h:Aside0 (Kd.C d w A n xs)) (k:Below w1.heap.size w1 w2) (hb:Below w.heap.size w w1:=by repeat (first | with_reducible exact Below.refl _ _ | apply below_alloc | apply pw_below_drewN | apply below_drew1)):Aside0 (Kd.C d w2 A n xs):=⟨Kd.C_below (Kd.C_below h.out hb) k⟩
end
theorem zq0 {p:Prop} (h:p:=by repeat (first | (with_reducible first | exact HB.out | apply below_alloc | apply pw_below_drewN | apply below_drew1) | exact HB.out)):p:=h
theorem zq1 {p:Prop} (h:p:=by first | (with_reducible assumption) | assumption):p:=h
theorem zq2 {p:Prop} (h:p:=by first | rfl | (simp[errW_none,errW_some] <;> rfl) | (simp[*,errW_none,errW_some] <;> rfl)):p:=h
theorem zq3 {p:Prop} (h:p:=by first | rfl | (simp;done) | (simp[*];done)):p:=h
theorem zq4 {p:Prop} (h:p:=by omega):p:=h
theorem zq5 {p:Prop} (h:p:=by repeat (first | exact Drawn0.refl _ | apply Drawn0.step)):p:=h
theorem zq8 {p:Prop} (h:p:=by repeat (first | (with_reducible first | exact HB.out | apply below_alloc | apply pw_below_drewN | apply below_drew1 | refine below_set ?_ GE181.out | refine below_set ?_ GE182.out) | exact HB.out)):p:=h
theorem zq13 {p:Prop} (h:p:=by first | exact Kd.R_nil _ _ _ _ _ | exact Kd.N_nil _ _ _ _ _ | exact Kd.V_nil _ _ _ _ _ | exact Kd.Q_nil _ _ _ _ _ | exact Kd.S_nil _ _ _ _ _):p:=h
theorem zq14 {p:Prop} (h:p:=by rw[HM.out,HNE.out];exact T1.out):p:=h
theorem zq16 {p:Prop} (h:p:=by repeat (first | (with_reducible first | exact HK.out | apply Kept.alloc | apply Kept.drewN | apply Kept.drew) | exact HK.out)):p:=h
theorem zq17 {p:Prop} (h:p:=by kernel_rfl):p:=h
theorem zq19 {p:Prop} (h:p:=by (with_reducible repeat (first | refine blk_drewN ?_ _ | refine blk_drew ?_ | refine blk_alloc ?_ _));refine blk_put (cs:=#[.int .i64 ((rd_T68 l0 x11_1).f0),.int .i64 ((rd_T68 l0 x11_1).f1),.string (⟨#[]⟩:ByteArray)]) ?_ 2 _ rfl;(with_reducible repeat (first | refine blk_drewN ?_ _ | refine blk_drew ?_ | refine blk_alloc ?_ _));refine blk_put (cs:=#[.int .i64 ((rd_T68 l0 x11_1).f0),.int .i64 0,.string (⟨#[]⟩:ByteArray)]) ?_ 1 _ rfl;(with_reducible repeat (first | refine blk_drewN ?_ _ | refine blk_drew ?_ | refine blk_alloc ?_ _));refine blk_put (cs:=#[.int .i64 0,.int .i64 0,.string (⟨#[]⟩:ByteArray)]) ?_ 0 _ rfl;(with_reducible repeat (first | refine blk_drewN ?_ _ | refine blk_drew ?_ | refine blk_alloc ?_ _));exact BK104.out):p:=h
theorem zq22 {p:Prop} (h:p:=by repeat (first | (with_reducible first | exact HB.out | apply below_alloc | apply pw_below_drewN | apply below_drew1 | refine below_set ?_ GE272.out) | exact HB.out)):p:=h
theorem zq23 {p:Prop} (h:p:=by repeat (first | (with_reducible first | exact HB.out | apply below_alloc | apply pw_below_drewN | apply below_drew1 | refine below_set ?_ GE181.out) | exact HB.out)):p:=h
theorem zq24 {p:Prop} (h:p:=by repeat (first | (with_reducible first | exact HB.out | apply below_alloc | apply pw_below_drewN | apply below_drew1 | refine below_set ?_ GE101.out) | exact HB.out)):p:=h
theorem zq29 {p:Prop} (h:p:=by rw[Nat.add_sub_cancel,show nn - (h+1)=z by have:=HZ.out;omega,HCV.out];have:=of_decide_eq_false bc;omega):p:=h
theorem zq30 {p:Prop} (h:p:=by simp):p:=h
theorem zq31 {p:Prop} (h:p:=by repeat (first | (with_reducible first | exact HB.out | apply below_alloc | apply pw_below_drewN | apply below_drew1 | refine below_set ?_ GE104.out) | exact HB.out)):p:=h
theorem zq32 {p:Prop} (h:p:=by first | omega | exact Nat.le_refl _):p:=h
theorem zq33 {p:Prop} (h:p:=by simp;omega):p:=h
theorem zq34 {p:Prop} (h:p:=by decide):p:=h
theorem zq38 {p:Prop} (h:p:=by rw[show nn - h - 1=z by have:=HZ.out;omega,HCV.out];have:=ODT bc;omega):p:=h
theorem zq39 {p:Prop} (h:p:=by repeat (first | (with_reducible first | exact HB.out | apply below_alloc | apply pw_below_drewN | apply below_drew1 | refine below_set ?_ GE140.out) | exact HB.out)):p:=h
theorem zq40 {p:Prop} (h:p:=by (with_reducible repeat (first | apply Kd.R_alloc | apply Kd.R_drewN | apply Kd.R_drew));exact HO_5.out):p:=h
theorem zq42 {p:Prop} (h:p:=by (with_reducible repeat (first | refine blk_drewN ?_ _ | refine blk_drew ?_ | refine blk_alloc ?_ _));exact BK182.out):p:=h
theorem zq43 {p:Prop} (h:p:=by (with_reducible repeat (first | refine blk_drewN ?_ _ | refine blk_drew ?_ | refine blk_alloc ?_ _));exact BK181.out):p:=h
theorem zq46 {p:Prop} (h:p:=by have:=HR.out;omega):p:=h
theorem zq49 {p:Prop} (h:p:=by repeat (first | (with_reducible first | exact HB.out | apply below_alloc | apply pw_below_drewN | apply below_drew1 | refine below_set ?_ GE318.out) | exact HB.out)):p:=h
theorem zq50 {p:Prop} (h:p:=by repeat (first | (with_reducible first | exact HB.out | apply below_alloc | apply pw_below_drewN | apply below_drew1 | refine below_set ?_ GE178.out) | exact HB.out)):p:=h
theorem zq52 {p:Prop} (h:p:=by show _<=w.heap.size+1+1;omega):p:=h
theorem zq54 {p:Prop} (h:p:=by simp[results,Tryz.results158,go_sem, *]):p:=h
theorem zq58 {p:Prop} (h:p:=by first | rfl | trivial):p:=h
theorem zq59 {p:Prop} (h:p:=by have:=HPE.out;have:=HRE.out;omega):p:=h
theorem zq61 {p:Prop} (h:p:=by show _<=w.heap.size+1;omega):p:=h
theorem zq63 {p:Prop} (h:p:=by (try simp only[List.map_toArray,List.map_cons,List.map_nil]);first | done | (simp only[hji10];rfl) | rfl | (simp only[List.length_drop,List.length_take];rfl)):p:=h
theorem zq65 {p:Prop} (h:p:=by repeat (first | (with_reducible first | exact HB.out | apply below_alloc | apply pw_below_drewN | apply below_drew1 | refine below_set ?_ GE326.out) | exact HB.out)):p:=h
theorem zq66 {p:Prop} (h:p:=by repeat (first | (with_reducible first | exact HB.out | apply below_alloc | apply pw_below_drewN | apply below_drew1 | refine below_set ?_ GE136.out) | exact HB.out)):p:=h
theorem zq67 {p:Prop} (h:p:=by simp only[List.map_toArray,List.map_cons,List.map_nil];rfl):p:=h
theorem zq68 {p:Prop} (h:p:=by (with_reducible repeat (first | apply Kd.R_alloc | apply Kd.R_drewN | apply Kd.R_drew));exact HO_6.out):p:=h
theorem zq72 {p:Prop} (h:p:=by exact (by rw[hg];exact (below_size zq23):w.heap.size<=gb182)):p:=h
theorem zq78 {p:Prop} (h:p:=by (with_reducible repeat (first | refine blk_drewN ?_ _ | refine blk_drew ?_ | refine blk_alloc ?_ _));exact BK272.out):p:=h
end Go.Proofs.YtmkgecapkeojaaaGreatW.PrintMore
end
section
namespace Go.Proofs.YtmkgecapkeojaaaGreatW.PrintWords
open Go.RowKit
section
variable {P:Program} {d:Nat} {xs ys:Array Value} {f:Field} {fs:List Field} {a b:Value} {r s:Bool} {w:World}
theorem eqf_last (hn : (f.name == "_") = false) (ha : (part f.type xs f.offset).run P w = .ok a w) (hb : (part f.type ys f.offset).run P w = .ok b w) (he : (Op.equalIn d f.type a b).run P w = .ok r w) : (Op.eqFields d xs ys [f]).run P w = .ok r w := by
 have hn' : f.name ≠ "_" := by simpa using hn
 simp only[Op.eqFields,if_pos hn',Sem.run_bind,ha,hb,he,Result.andThen_ok];cases r <;> simp
theorem eqf_cons (hn : (f.name == "_") = false) (ha : (part f.type xs f.offset).run P w = .ok a w) (hb : (part f.type ys f.offset).run P w = .ok b w) (he : (Op.equalIn d f.type a b).run P w = .ok r w) (hr : (Op.eqFields d xs ys fs).run P w = .ok s w) : (Op.eqFields d xs ys (f :: fs)).run P w = .ok (r && s) w := by
 have hn' : f.name ≠ "_" := by simpa using hn
 rw[Op.eqFields];simp only[if_pos hn',Sem.run_bind,ha,hb,he,Result.andThen_ok];cases r
 ·simp
 ·simpa using hr
theorem eqA_of {t:TypeId} {fs:Array Field} (hu:P.underlying t=some (.struct fs)) (hp:P.stoodInHeld t=false) (h:(Op.eqFields d xs ys fs.toList).run P w = .ok r w):(Op.equalIn (d+1) t (.agg xs) (.agg ys)).run P w = .ok r w:=by
 have hf:P.fieldsOf t=fs:=by simp[Program.fieldsOf,hu]
 rw[run_equalIn_struct (P:=P) w d t xs ys (by rw[hf];exact hu) hp,hf];exact h
end
end Go.Proofs.YtmkgecapkeojaaaGreatW.PrintWords
end
section
namespace Go.Proofs.YtmkgecapkeojaaaGreatW.PrintWords
theorem Reps.one {α:Type} {R:α->List Value->Prop} {ps:List α} {cs:List Value} {p:α} {v:Value} (hp:R p [v]) (h:Reps R 1 ps cs):Reps R 1 (p :: ps) (v :: cs):=by
 refine⟨by simp[h.1],fun j q hq=>?_⟩;cases j with
 | zero =>
  simp only[List.getElem?_cons_zero,Option.some.injEq] at hq;subst hq
  simpa using hp
 | succ j =>
  simp only[List.getElem?_cons_succ] at hq;have h1:=h.2 j q hq
  simpa [Nat.mul_one] using h1
theorem Reps.front {α:Type} {R:α->List Value->Prop} {size:Nat} {ps:List α} {cs c all:List Value} {p:α} (hp:R p c) (hc:c.length=size) (h:Reps R size ps cs) (ha:c ++ cs=all):Reps R size (p :: ps) all:=by
 subst ha;refine⟨by rw[List.length_append,hc,h.1,List.length_cons,Nat.succ_mul,Nat.add_comm],fun j q hq=>?_⟩;cases j with
 | zero =>
  simp only[List.getElem?_cons_zero,Option.some.injEq] at hq;subst hq;rw[Nat.zero_mul,List.drop_zero,List.take_append_of_le_length (by omega),List.take_of_length_le (by omega)];exact hp
 | succ j =>
  simp only[List.getElem?_cons_succ] at hq;have h1:=h.2 j q hq;rw[Nat.succ_mul,List.drop_append,List.drop_of_length_le (by rw[hc];exact Nat.le_add_left _ _),List.nil_append,hc,Nat.add_sub_cancel];exact h1
theorem Reps.c2 {α:Type} {R:α->List Value->Prop} {ps:List α} {cs:List Value} {p:α} {va vb:Value} (hp:R p [va,vb]) (h:Reps R 2 ps cs):Reps R 2 (p :: ps) (va :: vb :: cs):=Reps.front hp rfl h rfl
theorem Reps.c3 {α:Type} {R:α->List Value->Prop} {ps:List α} {cs:List Value} {p:α} {va vb vc:Value} (hp:R p [va,vb,vc]) (h:Reps R 3 ps cs):Reps R 3 (p :: ps) (va :: vb :: vc :: cs):=Reps.front hp rfl h rfl
theorem Reps.c4 {α:Type} {R:α->List Value->Prop} {ps:List α} {cs:List Value} {p:α} {va vb vc vd:Value} (hp:R p [va,vb,vc,vd]) (h:Reps R 4 ps cs):Reps R 4 (p :: ps) (va :: vb :: vc :: vd :: cs):=Reps.front hp rfl h rfl
theorem Reps.c5 {α:Type} {R:α->List Value->Prop} {ps:List α} {cs:List Value} {p:α} {va vb vc vd ve:Value} (hp:R p [va,vb,vc,vd,ve]) (h:Reps R 5 ps cs):Reps R 5 (p :: ps) (va :: vb :: vc :: vd :: ve :: cs):=Reps.front hp rfl h rfl
theorem Reps.c6 {α:Type} {R:α->List Value->Prop} {ps:List α} {cs:List Value} {p:α} {va vb vc vd ve vf:Value} (hp:R p [va,vb,vc,vd,ve,vf]) (h:Reps R 6 ps cs):Reps R 6 (p :: ps) (va :: vb :: vc :: vd :: ve :: vf :: cs):=Reps.front hp rfl h rfl
theorem Reps.c7 {α:Type} {R:α->List Value->Prop} {ps:List α} {cs:List Value} {p:α} {va vb vc vd ve vf vg:Value} (hp:R p [va,vb,vc,vd,ve,vf,vg]) (h:Reps R 7 ps cs):Reps R 7 (p :: ps) (va :: vb :: vc :: vd :: ve :: vf :: vg :: cs):=Reps.front hp rfl h rfl
theorem Reps.c8 {α:Type} {R:α->List Value->Prop} {ps:List α} {cs:List Value} {p:α} {va vb vc vd ve vf vg vh:Value} (hp:R p [va,vb,vc,vd,ve,vf,vg,vh]) (h:Reps R 8 ps cs):Reps R 8 (p :: ps) (va :: vb :: vc :: vd :: ve :: vf :: vg :: vh :: cs):=Reps.front hp rfl h rfl
theorem Reps.c9 {α:Type} {R:α->List Value->Prop} {ps:List α} {cs:List Value} {p:α} {va vb vc vd ve vf vg vh vi:Value} (hp:R p [va,vb,vc,vd,ve,vf,vg,vh,vi]) (h:Reps R 9 ps cs):Reps R 9 (p :: ps) (va :: vb :: vc :: vd :: ve :: vf :: vg :: vh :: vi :: cs):=Reps.front hp rfl h rfl
theorem Reps.c10 {α:Type} {R:α->List Value->Prop} {ps:List α} {cs:List Value} {p:α} {va vb vc vd ve vf vg vh vi vj:Value} (hp:R p [va,vb,vc,vd,ve,vf,vg,vh,vi,vj]) (h:Reps R 10 ps cs):Reps R 10 (p :: ps) (va :: vb :: vc :: vd :: ve :: vf :: vg :: vh :: vi :: vj :: cs):=Reps.front hp rfl h rfl
end Go.Proofs.YtmkgecapkeojaaaGreatW.PrintWords
end
section
namespace Go.Proofs.YtmkgecapkeojaaaGreatW.PrintWords
open Go.RowKit
section
variable {P:Program} {ops:Array Oper} {rest:List Oper} {o:Oper} {a:Act} {Q:Exit->Act->World->Prop} {W:World}
theorem gate_guard (hw:Region.wanted o (yielded ops a.tmps)=true) (h:wpList P ops Q ({ o with guard:=none } :: rest) a W):wpList P ops Q (o :: rest) a W:=by
 have h1:Region.wanted { o with guard:=none } (yielded ops a.tmps)=true:=rfl;unfold wpList at h ⊢;rw[if_pos h1] at h;rw[if_pos hw];exact h
end
end Go.Proofs.YtmkgecapkeojaaaGreatW.PrintWords
end
