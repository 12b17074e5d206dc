/- Texts of this claim, put together by a program: PDax5, PDax6, PDax7. -/
import Derived.Test.YtmkgecapkeojaaaGreatJ2
set_option linter.unusedVariables false
set_option linter.unusedSimpArgs false
set_option maxHeartbeats 8000000
set_option maxRecDepth 100000
section
namespace Go.Proofs.YtmkgecapkeojaaaGreat.PDa
open RowKit YtmkgecapkeojaaaGreatW.PrintWords YtmkgecapkeojaaaGreatW.PrintLast YtmkgecapkeojaaaGreatW.PrintMore
attribute [local go_sem] max2_int min2_int max_two min_two max_three min_three max_four min_four
def thE:Th->Value
 | .num n=>.iface 145 (.int .i64 n)
 | .txt s=>.iface 146 (.string s)
def kTh:Kd Th:=Kd.scalar thE (fun x=>by cases x <;> rfl)
theorem infoTh:(Tryz.prog.info? 119).map (fun i=>(i.zero,i.size,i.bytes))=some (some .nilIface,1,16):=by kernel_rfl
structure Stk (B:Nat) (w:World) (g:Nat) (L:List Th):Prop where
 hB:B<=g
 hl:L.length<=64
 h:∃ v,w.heap[g]? = some (.cells #[v] 116 (0,0))/\kTh.R 119 w B (fun _=>True) v L
theorem Stk.below {B:Nat} {w w':World} {g:Nat} {L:List Th} (h:Stk B w g L) (hb:Below w.heap.size w w'):Stk B w' g L:=by
 obtain⟨hB,hl,v,h1,h2⟩:=h;have hg:g<w.heap.size:=by
  rcases Nat.lt_or_ge g w.heap.size with c | c
  ·exact c
  ·rw[Array.getElem?_eq_none c] at h1;simp at h1
 exact⟨hB,hl,v,(hb.block g hg).trans h1,Kd.R_below h2 hb⟩
theorem Stk.store {B:Nat} {w:World} {g:Nat} {v v1:Value} {L:List Th} (hB:B<=g) (hl:L.length<=64) (h1:w.heap[g]? = some (.cells #[v] 116 (0,0))) (h2:kTh.R 119 w B (fun _=>True) v1 L) :
  Stk B (w.setCell ⟨g,0,none⟩ v1) g L:=by
 refine⟨hB,hl,v1,?_,?_⟩
 ·simp[World.setCell,Array.getElem?_modify,h1]
 ·exact Kd.R_set h2 h1 (by intro q hq;simp[kTh,Kd.scalar] at hq;omega) 0 v1
theorem push_after {w w1:World} {v:Value} {g:Nat} {v0:Value} {t:TypeId} (hg:w.grownBy w1 v.ownBlock) (hlt:g<w.heap.size) (hne:v.ownBlock ≠ some g) (h:w.heap[g]? = some (.cells #[v0] t (0,0))) :
  w1.cell? ⟨g,0,none⟩=some v0/\w1.frozen? ⟨g,0,none⟩=false/\Aside0 (w1.heap[g]? = some (.cells #[v0] t (0,0))):=by
 have h2:=(hg.block g hlt (fun e=>hne e.symm)).trans h;exact⟨by simp[World.cell?,h2],by simp[World.frozen?,h2],⟨h2⟩⟩
theorem push_core (B:Nat) (g:Nat) (L:List Th) (x:Th) (w:World) (T:TypeId) (u:Value) (hx:thE x = .iface T u) (hs:Stk B w g L) (hl:L.length<64) (hBw:B<=w.heap.size) :
  Calls Tryz.prog 132 #[.pointer (some ⟨g,0,none⟩),.iface T u] w fun e w'=>e = .returned (.tuple #[])/\Stk B w' g (L ++ [x])/\Below B w w':=by
 obtain⟨hB,_,v,h1,h2⟩:=hs;have HB:=Aside0.mk (Below.refl B w);have HO:=Aside0.mk h2;have HG:=Aside0.mk h1;have HX:=Aside0.mk hx;have hc:w.cell? ⟨g,0,none⟩=some v:=by simp[World.cell?,h1]
 have hf:w.frozen? ⟨g,0,none⟩=false:=by simp[World.frozen?,h1]
 have hlt:g<w.heap.size:=World.block_lt_of_cell? w _ hc;have hne:v.ownBlock ≠ some g:=by
  intro e;obtain⟨inner,ho,_⟩:=h2.2;obtain⟨cells,hcl⟩:=own_typed ho g e;rw[h1] at hcl;simp at hcl
 have HNE:=Aside0.mk hne;clear h1 h2 hx hne;go_enter Tryz.func132,Tryz.ntmps132
 go_wp2_with (at_builtin;refine Kd.R_append kTh (w0:=w) B rfl (.tmp 8) (.tmp 10) 114 119 .nilIface 16 rfl Tryz.underlying114 infoTh rfl zq34 zq4 v L x [.iface T u] (fun _=>True) (fun _=>False) rfl rfl (by show [_]=[_];rw[HX.out]) (fun _ hk=>hk.elim) (fun _ _=>trivial) HO.out HB.out hBw zq4 ?_;intro v1 w1 ho1 hb1 hg1 hat;obtain⟨A1,n1,rfl⟩:=Kd.R_slice ho1;have HO1:=Aside0.mk ho1;have HB1:=Aside0.mk hb1;obtain⟨hc1,hf1,HG2⟩:=push_after hg1 hlt HNE.out HG.out;clear ho1 hb1 hg1 hat)
 go_end0
 refine⟨rfl,Stk.store hB zq33 HG2.out ?_,HB1.out.setCell hB _⟩;have:=HO1.out;rw[List.length_append,List.length_singleton] at this;exact this
theorem pop_calls (B:Nat) (g:Nat) (L:List Th) (x:Th) (w:World) (hs:Stk B w g (L ++ [x])) :
  Calls Tryz.prog 92 #[.pointer (some ⟨g,0,none⟩)] w fun e w'=>e = .returned (thE x)/\Stk B w' g L/\Below B w w':=by
 obtain⟨hB,hl0,v,h1,h2⟩:=hs;have hl:L.length+1<=64:=by simpa using hl0
 obtain⟨r,cap,rfl,hBr,hrl,hcells⟩:=Kd.R_form h2 zq30;have hlen:(L ++ [x]).length=L.length+1:=by simp
 rw[hlen] at h1 h2;obtain⟨c,hcl,hm,hcell,hfz⟩:=Kd.R_elem h2 x (L.length:Int) zq4 zq33;have hx:c=[thE x]:=by
  have:kTh.M w B (fun k=>True/\k ≠ r) ((L ++ [x]).getD (L.length:Int).toNat x) c:=hm;have e:(L ++ [x]).getD (L.length:Int).toNat x=x:=by simp[List.getD]
  rw[e] at this;exact this
 have hread:=hcell 0 (thE x) (by rw[hx];rfl);have e1:(L.length:Int).toNat*kTh.sz+0=L.length:=by simp[kTh,Kd.scalar]
 rw[e1] at hread;have htake:kTh.R 119 w B (fun _=>True) (.slice (some ⟨r,0,none⟩) L.length cap) L:=by
  have:=Kd.R_take (m:=L.length) h2 zq30
  simpa using this
 have hcap:L.length+1<=cap:=by
  obtain⟨A,cc,he,hle,_⟩:=Kd.R_reads h2;injection he with _ _ e
  rw[hlen] at hle;omega
 have HO:=Aside0.mk htake;have HG:=Aside0.mk h1;have hc:w.cell? ⟨g,0,none⟩=some (.slice (some ⟨r,0,none⟩) (L.length+1) cap):=by simp[World.cell?,h1]
 have hf:w.frozen? ⟨g,0,none⟩=false:=by simp[World.frozen?,h1]
 have hneg:r ≠ g:=by
  rintro rfl;obtain⟨cells,hce⟩:=hcells;rw[h1] at hce;simp at hce
 clear h1 h2 hcells hm hx hcl hcell hfz htake hl0 hlen e1;go_enter Tryz.func92,Tryz.ntmps92;go_wp2
 go_quiet (fail)
 all_goals go_wp2
 go_region
 all_goals go_wp2
 all_goals go_ret
 all_goals exact⟨rfl,Stk.store (w:=w.drewN _) hB zq4 HG.out (Kd.R_drewN HO.out _),(pw_below_drewN (Below.refl B w) _).setCell hB _⟩
def fault (why:Int):List PanicEntry:=[{ v:=.iface 111 (.agg #[.int .i64 why]),recovered:=false }]
theorem need_ok (why:Int) (w:World):Calls Tryz.prog 133 #[.bool true,.int .i64 why] w fun e w'=>e = .returned (.tuple #[])/\w=w':=by
 go_enter Tryz.func133,Tryz.ntmps133;go_wp2
 go_end0
 exact⟨rfl,rfl⟩
theorem need_no (why:Int) (w:World):Calls Tryz.prog 133 #[.bool false,.int .i64 why] w fun e w'=>e = .panicked (fault why)/\w=w':=by
 go_enter Tryz.func133,Tryz.ntmps133;go_wp2;exact⟨rfl,rfl,rfl⟩
theorem sure_ok (n:Int) (w:World):Calls Tryz.prog 134 #[.int .i64 n,.int .i64 0] w fun e w'=>e = .returned (.int .i64 n)/\w=w':=by
 go_enter Tryz.func134,Tryz.ntmps134
 go_wp2_with (go_at_call 133;((with_reducible refine (need_ok _ _).mono ?_);rintro e w' ⟨rfl,rfl⟩))
 go_ret;exact⟨rfl,rfl⟩
theorem sure_no (n why:Int) (w:World) (h:(why == 0)=false):Calls Tryz.prog 134 #[.int .i64 n,.int .i64 why] w fun e w'=>e = .panicked (fault why)/\w=w':=by
 go_enter Tryz.func134,Tryz.ntmps134
 go_wp2_with (go_at_call 133;((with_reducible refine (need_no _ _).mono ?_);rintro e w' ⟨rfl,rfl⟩))
 exact⟨rfl,rfl,rfl⟩
theorem tA:∀ (v:Value) (W:World),(Instr.typeAssert (.iface 145 v) 119 145 true).run Tryz.prog W = .ok (.tuple #[v,.bool true]) W:=fun v W=>by rfl
theorem tB:∀ (v:Value) (W:World),(Instr.typeAssert (.iface 146 v) 119 145 true).run Tryz.prog W = .ok (.tuple #[.int .i64 0,.bool false]) W:=fun v W=>by rfl
theorem tC:∀ (v:Value) (W:World),(Instr.typeAssert (.iface 146 v) 119 146 true).run Tryz.prog W = .ok (.tuple #[v,.bool true]) W:=fun v W=>by rfl
theorem tD:∀ (v:Value) (W:World),(Instr.typeAssert (.iface 145 v) 119 146 true).run Tryz.prog W = .ok (.tuple #[.string ByteArray.empty,.bool false]) W:=fun v W=>by rfl
theorem asNum_ok (n:Int) (w:World):Calls Tryz.prog 136 #[thE (.num n)] w fun e w'=>e = .returned (.int .i64 n)/\w=w':=by
 have ta:=tA;simp only[thE];go_enter Tryz.func136,Tryz.ntmps136
 go_wp2_with (go_at_call 133;((with_reducible refine (need_ok _ _).mono ?_);rintro e w' ⟨rfl,rfl⟩))
 go_ret;exact⟨rfl,rfl⟩
theorem asNum_no (t:ByteArray) (w:World):Calls Tryz.prog 136 #[thE (.txt t)] w fun e w'=>e = .panicked (fault 12)/\w=w':=by
 have ta:=tB;simp only[thE];go_enter Tryz.func136,Tryz.ntmps136
 go_wp2_with (go_at_call 133;((with_reducible refine (need_no _ _).mono ?_);rintro e w' ⟨rfl,rfl⟩))
 exact⟨rfl,rfl,rfl⟩
theorem asText_ok (t:ByteArray) (w:World):Calls Tryz.prog 138 #[thE (.txt t)] w fun e w'=>e = .returned (.string t)/\w=w':=by
 have ta:=tC;simp only[thE];go_enter Tryz.func138,Tryz.ntmps138
 go_wp2_with (go_at_call 133;((with_reducible refine (need_ok _ _).mono ?_);rintro e w' ⟨rfl,rfl⟩))
 go_ret;exact⟨rfl,rfl⟩
theorem asText_no (n:Int) (w:World):Calls Tryz.prog 138 #[thE (.num n)] w fun e w'=>e = .panicked (fault 12)/\w=w':=by
 have ta:=tD;simp only[thE];go_enter Tryz.func138,Tryz.ntmps138
 go_wp2_with (go_at_call 133;((with_reducible refine (need_no _ _).mono ?_);rintro e w' ⟨rfl,rfl⟩))
 exact⟨rfl,rfl,rfl⟩
theorem truth_calls (b:Bool) (w:World):Calls Tryz.prog 137 #[.bool b] w fun e w'=>e = .returned (.int .i64 (if b then 1 else 0))/\w=w':=by
 cases b
 ·go_enter Tryz.func137,Tryz.ntmps137
  go_wp2;go_ret;exact⟨rfl,rfl⟩
 ·go_enter Tryz.func137,Tryz.ntmps137
  go_wp2;go_ret;exact⟨rfl,rfl⟩
def Out (r:Except Int Value) (e:Ending):Prop:=match r with | .ok v=>e = .returned v | .error why=>e = .panicked (fault why)
def sureS (r:Int × Int):Except Int Int:=if r.2=0 then .ok r.1 else .error r.2
def eval_two.g (k:Nat) (c a b:Int):Option (Except Int Int) :=
 if c=7 then (num_Add.f a b).map sureS else if c=8 then (num_Sub.f a b).map sureS else if c=9 then (num_Mul.f k a b).map sureS
 else if c=10 then (num_Quo.f k a b).map sureS else if c=11 then (num_Rem.f k a b).map sureS
 else if c=19 then some (.ok (if a ≠ 0/\b ≠ 0 then 1 else 0)) else some (.ok (if a ≠ 0\/b ≠ 0 then 1 else 0))
theorem two_num (c:Int) (fn:Nat) (a b:Int) (r:Int × Int) (w:World) (hc:∀ w,Calls Tryz.prog fn #[.int .i64 a,.int .i64 b] w fun e w'=>e = .returned (.tuple #[.int .i64 r.1,.int .i64 r.2])/\Drawn0 w w')
  (h:(c=7/\fn=180)\/(c=8/\fn=181)\/(c=9/\fn=182)\/(c=10/\fn=183)\/(c=11/\fn=184)) :
  Calls Tryz.prog 163 #[.int .i64 c,.int .i64 a,.int .i64 b] w fun e w'=>Out ((sureS r).map fun n=>thE (.num n)) e/\Drawn0 w w':=by
 obtain⟨n,why⟩:=r;have HC:=Hd hc;clear hc
 by_cases hy:why=0
 ·subst hy
  rcases h with ⟨rfl,rfl⟩ | ⟨rfl,rfl⟩ | ⟨rfl,rfl⟩ | ⟨rfl,rfl⟩ | ⟨rfl,rfl⟩
  all_goals
   go_enter Tryz.func163,Tryz.ntmps163
   go_wp2_with (first
    | (go_at_call 134;((with_reducible refine (sure_ok _ _).mono ?_);rintro e w' ⟨rfl,rfl⟩))
    | ((with_reducible refine (HC.out _).mono ?_);rintro e w' ⟨rfl,⟨nd,rfl⟩⟩))
   go_ret;exact⟨rfl,⟨⟨_,rfl⟩⟩⟩
 ·have hb:(why == 0)=false:=beq_eq_false_iff_ne.2 hy
  have hs:(sureS (n,why)).map (fun n=>thE (.num n)) = .error why:=by unfold sureS;rw[if_neg hy];rfl
  rw[hs];clear hs hy;have HB:=Hd hb;clear hb
  rcases h with ⟨rfl,rfl⟩ | ⟨rfl,rfl⟩ | ⟨rfl,rfl⟩ | ⟨rfl,rfl⟩ | ⟨rfl,rfl⟩
  all_goals
   go_enter Tryz.func163,Tryz.ntmps163
   go_wp2_with (first
    | (go_at_call 134;((with_reducible refine (sure_no _ _ _ HB.out).mono ?_);rintro e w' ⟨rfl,rfl⟩))
    | ((with_reducible refine (HC.out _).mono ?_);rintro e w' ⟨rfl,⟨nd,rfl⟩⟩))
   exact⟨rfl,rfl,⟨⟨_,rfl⟩⟩⟩
theorem two_and (a b:Int) (w:World):Calls Tryz.prog 163 #[.int .i64 19,.int .i64 a,.int .i64 b] w fun e w'=>e = .returned (thE (.num (if a ≠ 0/\b ≠ 0 then 1 else 0)))/\w=w':=by
 have main:∀ (x:Bool) (hx:(a ≠ 0/\b ≠ 0->x=true)/\(¬ (a ≠ 0/\b ≠ 0)->x=false)) (h:(a != 0)=false/\x=false\/(a != 0)=true/\(b != 0)=x),
   Calls Tryz.prog 163 #[.int .i64 19,.int .i64 a,.int .i64 b] w fun e w'=>e = .returned (thE (.num (if x=true then 1 else 0)))/\w=w':=by
  intro x hx h;clear hx
  rcases h with ⟨h1,rfl⟩ | ⟨h1,h2⟩
  ·go_enter Tryz.func163,Tryz.ntmps163
   go_wp2_with (go_at_call 137;((with_reducible refine (truth_calls _ _).mono ?_);rintro e w' ⟨rfl,rfl⟩))
   all_goals (go_ret;exact⟨rfl,rfl⟩)
  ·go_enter Tryz.func163,Tryz.ntmps163
   go_wp2_with (go_at_call 137;((with_reducible refine (truth_calls _ _).mono ?_);rintro e w' ⟨rfl,rfl⟩))
   all_goals (go_ret;exact⟨rfl,rfl⟩)
 by_cases ha:a=0
 ·have:=main false ⟨fun h=>absurd ha h.1,fun _=>rfl⟩ (.inl ⟨by simpa using ha,rfl⟩)
  simpa [ha] using this
 ·have ha':(a != 0)=true:=by simpa using ha
  by_cases hb:b=0
  ·have:=main false ⟨fun h=>absurd hb h.2,fun _=>rfl⟩ (.inr ⟨ha',by simpa using hb⟩)
   simpa [hb] using this
  ·have:=main true ⟨fun _=>rfl,fun h=>absurd ⟨ha,hb⟩ h⟩ (.inr ⟨ha',by simpa using hb⟩)
   simpa [ha,hb] using this
theorem two_or (c a b:Int) (w:World) (h7:(c == 7)=false) (h8:(c == 8)=false) (h9:(c == 9)=false) (h10:(c == 10)=false) (h11:(c == 11)=false) (h19:(c == 19)=false) :
  Calls Tryz.prog 163 #[.int .i64 c,.int .i64 a,.int .i64 b] w fun e w'=>e = .returned (thE (.num (if a ≠ 0\/b ≠ 0 then 1 else 0)))/\w=w':=by
 have main:∀ (x:Bool) (h:(a != 0)=true/\x=true\/(a != 0)=false/\(b != 0)=x),
   Calls Tryz.prog 163 #[.int .i64 c,.int .i64 a,.int .i64 b] w fun e w'=>e = .returned (thE (.num (if x=true then 1 else 0)))/\w=w':=by
  intro x h
  rcases h with ⟨h1,rfl⟩ | ⟨h1,h2⟩
  ·go_enter Tryz.func163,Tryz.ntmps163
   go_wp2_with (go_at_call 137;((with_reducible refine (truth_calls _ _).mono ?_);rintro e w' ⟨rfl,rfl⟩))
   all_goals (go_ret;exact⟨rfl,rfl⟩)
  ·go_enter Tryz.func163,Tryz.ntmps163
   go_wp2_with (go_at_call 137;((with_reducible refine (truth_calls _ _).mono ?_);rintro e w' ⟨rfl,rfl⟩))
   all_goals (go_ret;exact⟨rfl,rfl⟩)
 by_cases ha:a=0
 ·have ha':(a != 0)=false:=by simpa using ha
  by_cases hb:b=0
  ·have:=main false (.inr ⟨ha',by simpa using hb⟩)
   simpa [ha,hb] using this
  ·have:=main true (.inr ⟨ha',by simpa using hb⟩)
   simpa [hb] using this
 ·have:=main true (.inl ⟨by simpa using ha,rfl⟩)
  simpa [ha] using this
theorem two_calls (k:Nat) (c a b:Int) (r:Except Int Int) (w:World) (h:eval_two.g k c a b=some r) :
  Calls Tryz.prog 163 #[.int .i64 c,.int .i64 a,.int .i64 b] w fun e w'=>Out (r.map fun n=>thE (.num n)) e/\Drawn0 w w':=by
 unfold eval_two.g at h
 split at h
 ·rename_i c1
  obtain⟨x,hx,rfl⟩:=Option.map_eq_some_iff.1 h;exact two_num c _ a b x w (fun w=>num_Add.calls a b x.1 x.2 w hx) (.inl ⟨c1,rfl⟩)
 split at h
 ·rename_i c1
  obtain⟨x,hx,rfl⟩:=Option.map_eq_some_iff.1 h;exact two_num c _ a b x w (fun w=>num_Sub.calls a b x.1 x.2 w hx) (.inr (.inl ⟨c1,rfl⟩))
 split at h
 ·rename_i c1
  obtain⟨x,hx,rfl⟩:=Option.map_eq_some_iff.1 h;exact two_num c _ a b x w (fun w=>num_Mul.calls k a b x.1 x.2 w hx) (.inr (.inr (.inl ⟨c1,rfl⟩)))
 split at h
 ·rename_i c1
  obtain⟨x,hx,rfl⟩:=Option.map_eq_some_iff.1 h;exact two_num c _ a b x w (fun w=>num_Quo.calls k a b x.1 x.2 w hx) (.inr (.inr (.inr (.inl ⟨c1,rfl⟩))))
 split at h
 ·rename_i c1
  obtain⟨x,hx,rfl⟩:=Option.map_eq_some_iff.1 h;exact two_num c _ a b x w (fun w=>num_Rem.calls k a b x.1 x.2 w hx) (.inr (.inr (.inr (.inr ⟨c1,rfl⟩))))
 split at h
 ·rename_i c1
  subst c1;obtain rfl:=OSI h;refine (two_and a b w).mono ?_;rintro e w' ⟨rfl,rfl⟩;exact⟨rfl,Drawn0.refl _⟩
 ·obtain rfl:=OSI h
  rename_i c1 c2 c3 c4 c5 c6
  refine (two_or c a b w (beq_eq_false_iff_ne.2 c1) (beq_eq_false_iff_ne.2 c2) (beq_eq_false_iff_ne.2 c3) (beq_eq_false_iff_ne.2 c4) (beq_eq_false_iff_ne.2 c5) (beq_eq_false_iff_ne.2 c6)).mono ?_;rintro e w' ⟨rfl,rfl⟩;exact⟨rfl,Drawn0.refl _⟩
theorem wordsValue_calls (t:ByteArray) (w:World):Calls Tryz.prog 212 #[.string t] w fun e w'=>e = .returned (.agg #[.int .i64 2,.int .i64 0,.string t])/\Below w.heap.size w w':=by
 go_enter Tryz.func212,Tryz.ntmps212;go_wp2;exact bodyPost_ret (v:=.agg #[.int .i64 2,.int .i64 0,.string t]) (by simp[results,Tryz.results212,go_sem]) rfl ⟨rfl,(Below.refl _ _).alloc (Nat.le_refl _) _⟩
theorem vNum_calls (n:Int) (w:World):Calls Tryz.prog 211 #[.int .i64 n] w fun e w'=>e = .returned (.agg #[.int .i64 1,.int .i64 n,.string ⟨#[]⟩])/\w.alloc (Obj.cells #[Value.int IntKind.i64 1,Value.int IntKind.i64 n,Value.string { data:=#[] }] 65)=w':=by
 go_enter Tryz.func211,Tryz.ntmps211;go_wp2;exact bodyPost_ret (v:=.agg #[.int .i64 1,.int .i64 n,.string ⟨#[]⟩]) (by simp[results,Tryz.results211,go_sem]) rfl ⟨rfl,rfl⟩
theorem numValue_calls (n:Int) (w:World):Calls Tryz.prog 210 #[.int .i64 n] w fun e w'=>e = .returned (.agg #[.int .i64 1,.int .i64 n,.string ⟨#[]⟩])/\Below w.heap.size w w':=by
 go_enter Tryz.func210,Tryz.ntmps210
 go_wp2_with (go_at_call 211;((with_reducible refine (vNum_calls _ _).mono ?_);rintro e w' ⟨rfl,rfl⟩))
 refine bodyPost_ret (v:=.agg #[.int .i64 1,.int .i64 n,.string ⟨#[]⟩]) (by simp[results,Tryz.results210,go_sem]) rfl ⟨rfl,?_⟩;exact ((Below.refl _ _).alloc (Nat.le_refl _) _).alloc zq30 _
def thVal3:Th->Int × Int × ByteArray
 | .num n=>(1,n,⟨#[]⟩)
 | .txt t=>(2,0,t)
def thO (x:Th):Option Th:=thOf (thVal3 x).1 (thVal3 x).2.1 (thVal3 x).2.2
def tv (b:Bool):Int:=if b then 1 else 0
theorem truth_tv (b:Bool) (w:World):Calls Tryz.prog 137 #[.bool b] w fun e w'=>e = .returned (.int .i64 (tv b))/\w=w':=truth_calls b w
def cmpS (c:Int) (r:Int):Int :=
 if c=13 then tv (r == 0) else if c=14 then tv (r != 0) else if c=15 then tv (decide (r<0))
 else if c=16 then tv (decide (r<=0)) else if c=17 then tv (decide (0<r)) else tv (decide (0<=r))
def mFn:Th->Nat
 | .num _=>210
 | .txt _=>212
def mVal:Th->Value
 | .num n=>.int .i64 n
 | .txt t=>.string t
def mTy:Th->TypeId
 | .num _=>145
 | .txt _=>146
theorem thE_m (x:Th):thE x = .iface (mTy x) (mVal x):=by cases x <;> rfl
theorem m_method (x : Th) (f : Nat) (w : World) : (method (f + 4) (mTy x) (mVal x) "rescind/eval.value").run Tryz.prog w = .ok (mFn x, mVal x) w := by
 cases x with
 | num n=>rfl
 | txt t=>rfl
def compareS (c:Int) (x y:Th):Except Int Int:=if (thVal3 x).1=(thVal3 y).1 then .ok (cmpS c (thCmp (thO x) (thO y))) else .error 12
def IsCmp (c r:Int) (e:Ending):Prop:=e = .returned (thE (.num (cmpS c r)))
theorem isCmp (c r x:Int) (h:(c=13/\x=tv (r == 0))\/(c=14/\x=tv (r != 0))\/(c=15/\x=tv (decide (r<0)))\/(c=16/\x=tv (decide (r<=0)))\/(c=17/\x=tv (decide (0<r)))\/(c ≠ 13/\c ≠ 14/\c ≠ 15/\c ≠ 16/\c ≠ 17/\x=tv (decide (0<=r)))) :
  IsCmp c r (.returned (.iface 145 (.int .i64 x))):=by
 unfold IsCmp cmpS
 rcases h with ⟨rfl,rfl⟩ | ⟨rfl,rfl⟩ | ⟨rfl,rfl⟩ | ⟨rfl,rfl⟩ | ⟨rfl,rfl⟩ | ⟨h1,h2,h3,h4,h5,rfl⟩
 ·rfl
 ·rfl
 ·rfl
 ·rfl
 ·rfl
 ·rw[if_neg h1,if_neg h2,if_neg h3,if_neg h4,if_neg h5];rfl
theorem compare_num (c n m:Int) (w:World) :
  Calls Tryz.prog 162 #[.int .i64 c,thE (.num n),thE (.num m)] w fun e w'=>IsCmp c (thCmp (thO (.num n)) (thO (.num m))) e/\Below w.heap.size w w':=by
 have VC:=Hd fun w=>value_Compare.calls 1 n ⟨#[]⟩ 1 m ⟨#[]⟩ (thCmp (thO (.num n)) (thO (.num m))) w rfl
 generalize thCmp (thO (.num n)) (thO (.num m))=r at *;have m1:=fun f w=>m_method (.num n) f w
 have m2:=fun f w=>m_method (.num m) f w
 simp only[mTy,mVal,mFn] at m1 m2;simp only[thE];have hb0:=Hd (Below.refl w.heap.size w);go_enter Tryz.func162,Tryz.ntmps162
 go_wp2_with (first
  | (go_at_call 210;((with_reducible refine (numValue_calls _ _).mono ?_);rintro e w' ⟨rfl,hb⟩;replace hb0:=Hd (g_bel hb0.out hb);clear hb))
  | (go_at_call 133;((with_reducible refine (need_ok _ _).mono ?_);rintro e w' ⟨rfl,rfl⟩))
  | (go_at_call 144;((with_reducible refine (VC.out _).mono ?_);rintro e w' ⟨rfl,hb⟩;replace hb0:=Hd (g_bel ((hb0.out.alloc hb0.out.size _).alloc (by have:=hb0.out.size;simp;omega) _) hb);clear hb))
  | (go_at_call 137;((with_reducible refine (truth_tv _ _).mono ?_);rintro e w' ⟨rfl,rfl⟩)))
 all_goals go_ret
 all_goals exact⟨isCmp _ _ _ (by simp only[beq_iff_eq,beq_eq_false_iff_ne] at *;simp[*]),hb0.out⟩
theorem compare_txt (c:Int) (n m:ByteArray) (w:World) :
  Calls Tryz.prog 162 #[.int .i64 c,thE (.txt n),thE (.txt m)] w fun e w'=>IsCmp c (thCmp (thO (.txt n)) (thO (.txt m))) e/\Below w.heap.size w w':=by
 have VC:=Hd fun w=>value_Compare.calls 2 0 n 2 0 m (thCmp (thO (.txt n)) (thO (.txt m))) w rfl
 generalize thCmp (thO (.txt n)) (thO (.txt m))=r at *;have m1:=fun f w=>m_method (.txt n) f w
 have m2:=fun f w=>m_method (.txt m) f w
 simp only[mTy,mVal,mFn] at m1 m2;simp only[thE];have hb0:=Hd (Below.refl w.heap.size w);go_enter Tryz.func162,Tryz.ntmps162
 go_wp2_with (first
  | (go_at_call 212;((with_reducible refine (wordsValue_calls _ _).mono ?_);rintro e w' ⟨rfl,hb⟩;replace hb0:=Hd (g_bel hb0.out hb);clear hb))
  | (go_at_call 133;((with_reducible refine (need_ok _ _).mono ?_);rintro e w' ⟨rfl,rfl⟩))
  | (go_at_call 144;((with_reducible refine (VC.out _).mono ?_);rintro e w' ⟨rfl,hb⟩;replace hb0:=Hd (g_bel ((hb0.out.alloc hb0.out.size _).alloc (by have:=hb0.out.size;simp;omega) _) hb);clear hb))
  | (go_at_call 137;((with_reducible refine (truth_tv _ _).mono ?_);rintro e w' ⟨rfl,rfl⟩)))
 all_goals go_ret
 all_goals exact⟨isCmp _ _ _ (by simp only[beq_iff_eq,beq_eq_false_iff_ne] at *;simp[*]),hb0.out⟩
theorem compare_nt (c:Int) (n:Int) (m:ByteArray) (w:World) :
  Calls Tryz.prog 162 #[.int .i64 c,thE (.num n),thE (.txt m)] w fun e w'=>e = .panicked (fault 12)/\Below w.heap.size w w':=by
 have m1:=fun f w=>m_method (.num n) f w
 have m2:=fun f w=>m_method (.txt m) f w
 simp only[mTy,mVal,mFn] at m1 m2;simp only[thE];have hb0:=Hd (Below.refl w.heap.size w);go_enter Tryz.func162,Tryz.ntmps162
 go_wp2_with (first
  | (go_at_call 210;((with_reducible refine (numValue_calls _ _).mono ?_);rintro e w' ⟨rfl,hb⟩;replace hb0:=Hd (g_bel hb0.out hb);clear hb))
  | (go_at_call 212;((with_reducible refine (wordsValue_calls _ _).mono ?_);rintro e w' ⟨rfl,hb⟩;replace hb0:=Hd (g_bel hb0.out hb);clear hb))
  | (go_at_call 133;((with_reducible refine (need_no _ _).mono ?_);rintro e w' ⟨rfl,rfl⟩)))
 all_goals exact⟨rfl,rfl,(hb0.out.alloc hb0.out.size _).alloc (by have:=hb0.out.size;simp;omega) _⟩
theorem compare_tn (c:Int) (n:ByteArray) (m:Int) (w:World) :
  Calls Tryz.prog 162 #[.int .i64 c,thE (.txt n),thE (.num m)] w fun e w'=>e = .panicked (fault 12)/\Below w.heap.size w w':=by
 have m1:=fun f w=>m_method (.txt n) f w
 have m2:=fun f w=>m_method (.num m) f w
 simp only[mTy,mVal,mFn] at m1 m2;simp only[thE];have hb0:=Hd (Below.refl w.heap.size w);go_enter Tryz.func162,Tryz.ntmps162
 go_wp2_with (first
  | (go_at_call 210;((with_reducible refine (numValue_calls _ _).mono ?_);rintro e w' ⟨rfl,hb⟩;replace hb0:=Hd (g_bel hb0.out hb);clear hb))
  | (go_at_call 212;((with_reducible refine (wordsValue_calls _ _).mono ?_);rintro e w' ⟨rfl,hb⟩;replace hb0:=Hd (g_bel hb0.out hb);clear hb))
  | (go_at_call 133;((with_reducible refine (need_no _ _).mono ?_);rintro e w' ⟨rfl,rfl⟩)))
 all_goals exact⟨rfl,rfl,(hb0.out.alloc hb0.out.size _).alloc (by have:=hb0.out.size;simp;omega) _⟩
theorem compare_calls (c:Int) (x y:Th) (w:World) :
  Calls Tryz.prog 162 #[.int .i64 c,thE x,thE y] w fun e w'=>Out ((compareS c x y).map fun n=>thE (.num n)) e/\Below w.heap.size w w':=by
 cases x with
 | num n =>
  cases y with
  | num m=>exact compare_num c n m w
  | txt m=>exact compare_nt c n m w
 | txt n =>
  cases y with
  | num m=>exact compare_tn c n m w
  | txt m=>exact compare_txt c n m w
theorem pair_cat (s t:ByteArray) (w:World) (b:Bool) (hb:decide ((s.size:Int)+(t.size:Int)<=64)=b) (hsz:¬ 9223372036854775807<s.size+t.size) :
  Calls Tryz.prog 139 #[.int .i64 12,thE (.txt s),thE (.txt t)] w fun e w'=>Out ((if b=true then .ok (.txt (s ++ t)) else .error 6:Except Int Th).map thE) e/\Below w.heap.size w w':=by
 have hs:=Hd fun w=>asText_ok s w
 have ht:=Hd fun w=>asText_ok t w
 simp only[thE] at hs ht ⊢;cases b
 ·go_enter Tryz.func139,Tryz.ntmps139
  go_wp2_with (first
   | (go_at_call 138;first | ((with_reducible refine (hs.out _).mono ?_);rintro e w' ⟨rfl,rfl⟩) | ((with_reducible refine (ht.out _).mono ?_);rintro e w' ⟨rfl,rfl⟩))
   | (go_at_call 133;((with_reducible refine (need_no _ _).mono ?_);rintro e w' ⟨rfl,rfl⟩)))
  all_goals exact⟨rfl,rfl,Below.refl _ _⟩
 ·go_enter Tryz.func139,Tryz.ntmps139
  go_wp2_with (first
   | (go_at_call 138;first | ((with_reducible refine (hs.out _).mono ?_);rintro e w' ⟨rfl,rfl⟩) | ((with_reducible refine (ht.out _).mono ?_);rintro e w' ⟨rfl,rfl⟩))
   | (go_at_call 133;((with_reducible refine (need_ok _ _).mono ?_);rintro e w' ⟨rfl,rfl⟩)))
  all_goals (first | (exfalso;exact hsz (by assumption)) | (go_ret;exact⟨rfl,Below.refl _ _⟩))
theorem pair_cat_no (x y:Th) (w:World) (h:(∃ n,x = .num n)\/(∃ s n,x = .txt s/\y = .num n)) :
  Calls Tryz.prog 139 #[.int .i64 12,thE x,thE y] w fun e w'=>e = .panicked (fault 12)/\w=w':=by
 rcases h with ⟨n,rfl⟩ | ⟨s,n,rfl,rfl⟩
 ·have hn:=Hd fun w=>asText_no n w
  cases y
  all_goals
   simp only[thE] at *;go_enter Tryz.func139,Tryz.ntmps139
   go_wp2_with (
    (go_at_call 138;((with_reducible refine (hn.out _).mono ?_);rintro e w' ⟨rfl,rfl⟩)))
   all_goals exact⟨rfl,rfl,rfl⟩
 ·have hn:=Hd fun w=>asText_no n w
  have hs:=Hd fun w=>asText_ok s w
  simp only[thE] at *;go_enter Tryz.func139,Tryz.ntmps139
  go_wp2_with (first
   | (go_at_call 138;first | ((with_reducible refine (hs.out _).mono ?_);rintro e w' ⟨rfl,rfl⟩) | ((with_reducible refine (hn.out _).mono ?_);rintro e w' ⟨rfl,rfl⟩)))
  all_goals exact⟨rfl,rfl,rfl⟩
theorem pair_cmp (c:Int) (x y:Th) (w:World) (h0:(c == 12)=false) (h1:decide (c >= 13)=true) (h2:decide (c<=18)=true) :
  Calls Tryz.prog 139 #[.int .i64 c,thE x,thE y] w fun e w'=>Out ((compareS c x y).map fun n=>thE (.num n)) e/\Below w.heap.size w w':=by
 have CC:=Hd fun w=>compare_calls c x y w
 generalize compareS c x y=r at *;rw[thE_m x,thE_m y] at *;generalize mTy x=tx at *;generalize mTy y=ty at *;generalize mVal x=vx at *;generalize mVal y=vy at *;cases r with
 | ok n =>
  have CC:Hid (∀ w,Calls Tryz.prog 162 #[.int .i64 c,.iface tx vx,.iface ty vy] w fun e w'=>e = .returned (thE (.num n))/\Below w.heap.size w w'):=CC;go_enter Tryz.func139,Tryz.ntmps139
  go_wp2_with (
   (go_at_call 162;((with_reducible refine (CC.out _).mono ?_);rintro e w' ⟨rfl,hb⟩)))
  all_goals (go_ret;exact⟨rfl,hb⟩)
 | error n =>
  have CC:Hid (∀ w,Calls Tryz.prog 162 #[.int .i64 c,.iface tx vx,.iface ty vy] w fun e w'=>e = .panicked (fault n)/\Below w.heap.size w w'):=CC;go_enter Tryz.func139,Tryz.ntmps139
  go_wp2_with (
   (go_at_call 162;((with_reducible refine (CC.out _).mono ?_);rintro e w' ⟨rfl,hb⟩)))
  all_goals exact⟨rfl,rfl,hb⟩
theorem pair_two_no (c:Int) (x y:Th) (w:World) (h0:(c == 12)=false) (h1:decide (c >= 13)=false\/decide (c >= 13)=true/\decide (c<=18)=false) (h:(∃ s,x = .txt s)\/(∃ n s,x = .num n/\y = .txt s)) :
  Calls Tryz.prog 139 #[.int .i64 c,thE x,thE y] w fun e w'=>e = .panicked (fault 12)/\w=w':=by
 rcases h with ⟨n,rfl⟩ | ⟨s,n,rfl,rfl⟩
 ·have hn:=Hd fun w=>asNum_no n w
  cases y
  all_goals
   simp only[thE] at *
   rcases h1 with h1 | ⟨h1,h2⟩
   all_goals
    go_enter Tryz.func139,Tryz.ntmps139
    go_wp2_with (
     (go_at_call 136;((with_reducible refine (hn.out _).mono ?_);rintro e w' ⟨rfl,rfl⟩)))
    all_goals exact⟨rfl,rfl,rfl⟩
 ·have hn:=Hd fun w=>asNum_no n w
  have hs:=Hd fun w=>asNum_ok s w
  simp only[thE] at *
  rcases h1 with h1 | ⟨h1,h2⟩
  all_goals
   go_enter Tryz.func139,Tryz.ntmps139
   go_wp2_with (first
    | (go_at_call 136;first | ((with_reducible refine (hs.out _).mono ?_);rintro e w' ⟨rfl,rfl⟩) | ((with_reducible refine (hn.out _).mono ?_);rintro e w' ⟨rfl,rfl⟩)))
   all_goals exact⟨rfl,rfl,rfl⟩
theorem pair_two (k:Nat) (c n m:Int) (r:Except Int Int) (w:World) (h0:(c == 12)=false) (h1:decide (c >= 13)=false\/decide (c >= 13)=true/\decide (c<=18)=false) (h:eval_two.g k c n m=some r) :
  Calls Tryz.prog 139 #[.int .i64 c,thE (.num n),thE (.num m)] w fun e w'=>Out (r.map fun n=>thE (.num n)) e/\Drawn0 w w':=by
 have CC:=Hd fun w=>two_calls k c n m r w h
 have hn:=Hd fun w=>asNum_ok n w
 have hm:=Hd fun w=>asNum_ok m w
 clear h;simp only[thE] at hn hm ⊢;cases r with
 | ok v =>
  have CC:Hid (∀ w,Calls Tryz.prog 163 #[.int .i64 c,.int .i64 n,.int .i64 m] w fun e w'=>e = .returned (thE (.num v))/\Drawn0 w w'):=CC
  rcases h1 with h1 | ⟨h1,h2⟩
  all_goals
   go_enter Tryz.func139,Tryz.ntmps139
   go_wp2_with (first
    | (go_at_call 136;first | ((with_reducible refine (hn.out _).mono ?_);rintro e w' ⟨rfl,rfl⟩) | ((with_reducible refine (hm.out _).mono ?_);rintro e w' ⟨rfl,rfl⟩))
    | (go_at_call 163;((with_reducible refine (CC.out _).mono ?_);rintro e w' ⟨rfl,hd⟩)))
   all_goals (go_ret;exact⟨rfl,hd⟩)
 | error v =>
  have CC:Hid (∀ w,Calls Tryz.prog 163 #[.int .i64 c,.int .i64 n,.int .i64 m] w fun e w'=>e = .panicked (fault v)/\Drawn0 w w'):=CC
  rcases h1 with h1 | ⟨h1,h2⟩
  all_goals
   go_enter Tryz.func139,Tryz.ntmps139
   go_wp2_with (first
    | (go_at_call 136;first | ((with_reducible refine (hn.out _).mono ?_);rintro e w' ⟨rfl,rfl⟩) | ((with_reducible refine (hm.out _).mono ?_);rintro e w' ⟨rfl,rfl⟩))
    | (go_at_call 163;((with_reducible refine (CC.out _).mono ?_);rintro e w' ⟨rfl,hd⟩)))
   all_goals exact⟨rfl,rfl,hd⟩
def pairS (k:Nat) (c:Int) (x y:Th):Option (Except Int Th) :=
 if c=12 then (match x,y with
  | .txt s,.txt t=>if s.size+t.size<=64 then some (.ok (.txt (s ++ t))) else if s.size+t.size<=4294967296 then some (.error 6) else none
  | _,_=>some (.error 12))
 else if 13<=c/\c<=18 then some ((compareS c x y).map .num)
 else match x,y with
  | .num n,.num m=>(eval_two.g k c n m).map fun r=>r.map .num
  | _,_=>some (.error 12)
theorem out_map (r:Except Int Int):(r.map fun n=>thE (.num n))=(r.map Th.num).map thE:=by cases r <;> rfl
theorem pair_calls (k:Nat) (c:Int) (x y:Th) (r:Except Int Th) (w:World) (h:pairS k c x y=some r) :
  Calls Tryz.prog 139 #[.int .i64 c,thE x,thE y] w fun e w'=>Out (r.map thE) e/\Below w.heap.size w w':=by
 unfold pairS at h
 split at h
 ·rename_i c1
  subst c1
  split at h
  ·rename_i s t
   split at h
   ·rename_i hle
    obtain rfl:=OSI h;exact pair_cat s t w true (DET zq4) zq4
   split at h
   ·rename_i hle hle2
    obtain rfl:=OSI h;exact pair_cat s t w false (DEF zq4) zq4
   ·simp at h
  ·rename_i hno
   obtain rfl:=OSI h;have:(∃ n,x = .num n)\/(∃ s n,x = .txt s/\y = .num n):=by
    cases x with
    | num n=>exact .inl ⟨n,rfl⟩
    | txt s =>
     cases y with
     | num n=>exact .inr ⟨s,n,rfl,rfl⟩
     | txt t=>exact absurd rfl (hno s t rfl)
   refine (pair_cat_no x y w this).mono ?_;rintro e w' ⟨rfl,rfl⟩;exact⟨rfl,Below.refl _ _⟩
 ·rename_i c1
  split at h
  ·rename_i c2
   obtain rfl:=OSI h;have:=pair_cmp c x y w (beq_eq_false_iff_ne.2 c1) (DET c2.1) (DET c2.2);rw[out_map] at this;exact this
  ·rename_i c2
   have h1:decide (c >= 13)=false\/decide (c >= 13)=true/\decide (c<=18)=false:=by
    by_cases h:c >= 13
    ·exact .inr ⟨DET h,DEF (fun h'=>c2 ⟨h,h'⟩)⟩
    ·exact .inl (DEF h)
   split at h
   ·rename_i n m
    obtain⟨v,hv,rfl⟩:=Option.map_eq_some_iff.1 h;refine (pair_two k c n m v w (beq_eq_false_iff_ne.2 c1) h1 hv).mono ?_;rintro e w' ⟨he,⟨nd,rfl⟩⟩;rw[out_map] at he;exact⟨he,pw_below_drewN (Below.refl _ _) _⟩
   ·rename_i hno
    obtain rfl:=OSI h;have:(∃ s,x = .txt s)\/(∃ n s,x = .num n/\y = .txt s):=by
     cases x with
     | txt n=>exact .inl ⟨n,rfl⟩
     | num s =>
      cases y with
      | txt n=>exact .inr ⟨s,n,rfl,rfl⟩
      | num t=>exact absurd rfl (hno s t rfl)
    refine (pair_two_no c x y w (beq_eq_false_iff_ne.2 c1) h1 this).mono ?_;rintro e w' ⟨rfl,rfl⟩;exact⟨rfl,Below.refl _ _⟩
theorem Stk.alloc {B:Nat} {w:World} {g:Nat} {L:List Th} (h:Stk B w g L) (o:Obj):Stk B (w.alloc o) g L:=h.below ((Below.refl _ _).alloc (Nat.le_refl _) _)
def OutW (B g:Nat) (w:World) (r:Except Int (List Th)) (e:Ending) (w':World):Prop :=
 Below B w w'/\match r with
 | .ok L=>e = .returned (.tuple #[])/\Stk B w' g L.reverse
 | .error why=>e = .panicked (fault why)
theorem alloc_B {B:Nat} {w w':World} {o:Obj} (hB:B<=w.heap.size) (h:Below B (w.alloc o) w'):Below B w w':=((Below.refl _ _).alloc hB _).trans h
theorem word_num (B g:Nat) (n:Int) (t:ByteArray) (rv:Value) (L:List Th) (w:World) (hB:B<=w.heap.size) (hs:Stk B w g L.reverse) (hl:L.length<64) :
  Calls Tryz.prog 91 #[.pointer (some ⟨g,0,none⟩),.agg #[.int .i64 1,.int .i64 n,.string t],rv] w fun e w'=>OutW B g w (.ok (.num n :: L)) e w':=by
 have HS:=Hd hs;clear hs;go_enter Tryz.func91,Tryz.ntmps91
 go_wp2_with (
  (go_at_call 132;((with_reducible refine (push_core B g L.reverse (.num n) _ _ _ rfl (HS.out.alloc _) (by simpa using hl) zq33).mono ?_);rintro e w' ⟨rfl,hs2,hb2⟩)))
 go_end0
 exact⟨alloc_B hB hb2,rfl,by simpa using hs2⟩
theorem word_str (B g:Nat) (n:Int) (t:ByteArray) (rv:Value) (L:List Th) (w:World) (hB:B<=w.heap.size) (hs:Stk B w g L.reverse) (hl:L.length<64) :
  Calls Tryz.prog 91 #[.pointer (some ⟨g,0,none⟩),.agg #[.int .i64 2,.int .i64 n,.string t],rv] w fun e w'=>OutW B g w (.ok (.txt t :: L)) e w':=by
 have HS:=Hd hs;clear hs;go_enter Tryz.func91,Tryz.ntmps91
 go_wp2_with (
  (go_at_call 132;((with_reducible refine (push_core B g L.reverse (.txt t) _ _ _ rfl (HS.out.alloc _) (by simpa using hl) zq33).mono ?_);rintro e w' ⟨rfl,hs2,hb2⟩)))
 go_end0
 exact⟨alloc_B hB hb2,rfl,by simpa using hs2⟩
theorem word_get_no (B g:Nat) (n:Int) (t:ByteArray) (A:Option Addr) (ln cap:Nat) (w:World) (hB:B<=w.heap.size) (hn:decide (n<(ln:Int))=false) :
  Calls Tryz.prog 91 #[.pointer (some ⟨g,0,none⟩),.agg #[.int .i64 3,.int .i64 n,.string t],.slice A ln cap] w fun e w'=>OutW B g w (.error 3) e w':=by
 go_enter Tryz.func91,Tryz.ntmps91
 go_wp2_with (
  (go_at_call 133;((with_reducible refine (need_no _ _).mono ?_);rintro e w' ⟨rfl,rfl⟩)))
 exact⟨rfl,(Below.refl _ _).alloc hB _,rfl⟩
def getTh (v:S65):Th:=if v.f0=1 then .num v.f1 else .txt v.f2
theorem word_get (B g:Nat) (n:Int) (t:ByteArray) (A:Option Addr) (row:List S65) (cap:Nat) (L:List Th) (w:World) (hB:B<=w.heap.size) (hs:Stk B w g L.reverse) (hl:L.length<64)
  (hr:Kd.C k65 w A row.length row) (hc:row.length<=cap) (h0:0<=n) (hn:decide (n<(row.length:Int))=true) :
  Calls Tryz.prog 91 #[.pointer (some ⟨g,0,none⟩),.agg #[.int .i64 3,.int .i64 n,.string t],.slice A row.length cap] w fun e w'=>OutW B g w (.ok (getTh (rd_T65 row n) :: L)) e w':=by
 have hq:=fun o=>at_T65 (Kd.C_below hr ((Below.refl _ _).alloc (Nat.le_refl _) o)) n h0 (by simpa using hn)
 obtain⟨ad,rfl,_,_,_⟩:=at_T65 hr n h0 (by simpa using hn);have q0:=fun o=>let ⟨_,e,h,_,_⟩:=hq o;(OSI e) ▸ h
 have q1:=fun o=>let ⟨_,e,_,h,_⟩:=hq o;(OSI e) ▸ h
 have q2:=fun o=>let ⟨_,e,_,_,h⟩:=hq o;(OSI e) ▸ h
 clear hr hq;obtain⟨i,rfl⟩:=Int.eq_ofNat_of_zero_le h0;rw[Int.toNat_natCast] at q0 q1 q2;have hu:=Tryz.underlying65;have HS:=Hd hs;clear hs;generalize hv:rd_T65 row ↑i=v at *;clear hv;obtain⟨x0,x1,x2⟩:=v;have hn:decide (i<row.length)=true:=by simpa using hn
 have hn':i<row.length:=by simpa using hn
 have hs3:∀ o1 o2:Obj,Stk B ((w.alloc o1).alloc o2) g L.reverse:=fun o1 o2=>(HS.out.alloc _).alloc _
 by_cases hx:x0=1
 ·have hg:getTh ⟨x0,x1,x2⟩ = .num x1:=if_pos hx
  rw[hg];clear hg;have hx:(x0 == 1)=true:=by simpa using hx
  go_enter Tryz.func91,Tryz.ntmps91
  go_wp2_with (first
   | (go_at_call 133;((with_reducible refine (need_ok _ _).mono ?_);rintro e w' ⟨rfl,rfl⟩))
   | (go_at_call 132;((with_reducible refine (push_core B g L.reverse (.num x1) _ _ _ rfl (hs3 _ _) (by simpa using hl) zq33).mono ?_);rintro e w' ⟨rfl,hs2,hb2⟩)))
  go_end0
  exact⟨alloc_B hB (alloc_B zq33 hb2),rfl,by simpa using hs2⟩
 ·have hg:getTh ⟨x0,x1,x2⟩ = .txt x2:=if_neg hx
  rw[hg];clear hg;have hx:(x0 == 1)=false:=by simpa using hx
  go_enter Tryz.func91,Tryz.ntmps91
  go_wp2_with (first
   | (go_at_call 133;((with_reducible refine (need_ok _ _).mono ?_);rintro e w' ⟨rfl,rfl⟩))
   | (go_at_call 132;((with_reducible refine (push_core B g L.reverse (.txt x2) _ _ _ rfl (hs3 _ _) (by simpa using hl) zq33).mono ?_);rintro e w' ⟨rfl,hs2,hb2⟩)))
  go_end0
  exact⟨alloc_B hB (alloc_B zq33 hb2),rfl,by simpa using hs2⟩
theorem pop_top (B:Nat) (g:Nat) (L:List Th) (x:Th) (w:World) (hs:Stk B w g (x :: L).reverse) :
  Calls Tryz.prog 92 #[.pointer (some ⟨g,0,none⟩)] w fun e w'=>e = .returned (thE x)/\Stk B w' g L.reverse/\Below B w w':=by
 rw[List.reverse_cons] at hs;exact pop_calls B g L.reverse x w hs
theorem below_B {B:Nat} {w w1 w':World} (h1:Below B w w1) (h2:Below B w1 w'):Below B w w':=h1.trans h2
theorem below_W {B:Nat} {w w1 w':World} (hB:B<=w.heap.size) (h1:Below B w w1) (h2:Below w1.heap.size w1 w'):Below B w w':=h1.trans (h2.mono (Nat.le_trans hB h1.size))
theorem drawn_below {w w':World} (h:Drawn0 w w'):Below w.heap.size w w':=by obtain⟨nd,rfl⟩:=h;exact pw_below_drewN (Below.refl _ _) _
theorem size_B {B:Nat} {w w':World} {o:Obj} (hB:B<=w.heap.size) (h:Below B (w.alloc o) w'):B<=w'.heap.size:=Nat.le_trans hB (Nat.le_trans zq30 h.size)
theorem len_le {B g:Nat} {w:World} {L:List Th} (h:Stk B w g L.reverse):L.length<=64:=by have:=h.hl;simpa using this
theorem word_one_no (B g:Nat) (c n:Int) (t:ByteArray) (rv:Value) (L:List Th) (x:Th) (w:World) (hB:B<=w.heap.size) (hs:Stk B w g (x :: L).reverse)
  (h:(∃ s,x = .txt s)/\(c=4\/c=5)\/(∃ s,x = .num s)/\c=6) :
  Calls Tryz.prog 91 #[.pointer (some ⟨g,0,none⟩),.agg #[.int .i64 c,.int .i64 n,.string t],rv] w fun e w'=>OutW B g w (.error 12) e w':=by
 have HS:=Hd hs;clear hs
 rcases h with ⟨⟨s,rfl⟩,rfl | rfl⟩ | ⟨⟨s,rfl⟩,rfl⟩
 ·have PP:=Hd fun o=>pop_top B g L _ (w.alloc o) (HS.out.alloc _)
  have AN:=Hd fun w=>asNum_no s w
  simp only[thE] at PP AN;go_enter Tryz.func91,Tryz.ntmps91
  go_wp2_with (first
   | (go_at_call 92;((with_reducible refine (PP.out _).mono ?_);rintro e w1 ⟨rfl,hs2,hb2⟩))
   | (go_at_call 136;((with_reducible refine (AN.out _).mono ?_);rintro e w' ⟨rfl,rfl⟩)))
  exact⟨rfl,alloc_B hB hb2,rfl⟩
 ·have PP:=Hd fun o=>pop_top B g L _ (w.alloc o) (HS.out.alloc _)
  have AN:=Hd fun w=>asNum_no s w
  simp only[thE] at PP AN;go_enter Tryz.func91,Tryz.ntmps91
  go_wp2_with (first
   | (go_at_call 92;((with_reducible refine (PP.out _).mono ?_);rintro e w1 ⟨rfl,hs2,hb2⟩))
   | (go_at_call 136;((with_reducible refine (AN.out _).mono ?_);rintro e w' ⟨rfl,rfl⟩)))
  exact⟨rfl,alloc_B hB hb2,rfl⟩
 ·have PP:=Hd fun o=>pop_top B g L _ (w.alloc o) (HS.out.alloc _)
  have AN:=Hd fun w=>asText_no s w
  simp only[thE] at PP AN;go_enter Tryz.func91,Tryz.ntmps91
  go_wp2_with (first
   | (go_at_call 92;((with_reducible refine (PP.out _).mono ?_);rintro e w1 ⟨rfl,hs2,hb2⟩))
   | (go_at_call 138;((with_reducible refine (AN.out _).mono ?_);rintro e w' ⟨rfl,rfl⟩)))
  exact⟨rfl,alloc_B hB hb2,rfl⟩
theorem word_neg (B g:Nat) (n:Int) (t:ByteArray) (rv:Value) (L:List Th) (a:Int) (k:Nat) (r:Int × Int) (w:World) (hB:B<=w.heap.size) (hs:Stk B w g (.num a :: L).reverse) (h:num_Neg.f k a=some r) :
  Calls Tryz.prog 91 #[.pointer (some ⟨g,0,none⟩),.agg #[.int .i64 4,.int .i64 n,.string t],rv] w fun e w'=>OutW B g w ((sureS r).map fun m=>.num m :: L) e w':=by
 obtain⟨m,why⟩:=r;have NG:=Hd fun w=>(num_Neg.calls k a m why w h).mono (R':=fun e w'=>e = .returned (.tuple #[.int .i64 m,.int .i64 why])/\Below w.heap.size w w') fun e w' he=>⟨he.1,drawn_below he.2⟩
 have PP:=Hd fun o=>pop_top B g L _ (w.alloc o) (hs.alloc _)
 have AN:=Hd fun w=>asNum_ok a w
 have hl:L.reverse.length<64:=by have:=len_le hs;simp at this ⊢;omega
 clear hs h;simp only[thE] at PP AN
 by_cases hy:why=0
 ·subst hy
  go_enter Tryz.func91,Tryz.ntmps91
  go_wp2_with (first
   | (go_at_call 92;((with_reducible refine (PP.out _).mono ?_);rintro e w1 ⟨rfl,hs2,hb2⟩;replace hs2:=Hd hs2;replace hb2:=Hd hb2))
   | (go_at_call 136;((with_reducible refine (AN.out _).mono ?_);rintro e w' ⟨rfl,rfl⟩))
   | (go_at_call 135;((with_reducible refine (NG.out _).mono ?_);rintro e w2 ⟨rfl,hd⟩;have hs4:=Hd (hs2.out.below hd);have hb4:=Hd (below_W (Nat.le_trans hB zq30) hb2.out hd);clear hs2 hb2 hd))
   | (go_at_call 134;((with_reducible refine (sure_ok _ _).mono ?_);rintro e w' ⟨rfl,rfl⟩))
   | (go_at_call 132;((with_reducible refine (push_core B g L.reverse (.num m) _ _ _ rfl hs4.out hl (size_B hB hb4.out)).mono ?_);rintro e w' ⟨rfl,hs6,hb6⟩)))
  go_end0
  exact⟨alloc_B hB (below_B hb4.out hb6),rfl,by simpa using hs6⟩
 ·have hs:(sureS (m,why)).map (fun n=>Th.num n :: L) = .error why:=by unfold sureS;rw[if_neg hy];rfl
  rw[hs];have hb:(why == 0)=false:=beq_eq_false_iff_ne.2 hy;have HB:=Hd hb;clear hs hy hb;go_enter Tryz.func91,Tryz.ntmps91
  go_wp2_with (first
   | (go_at_call 92;((with_reducible refine (PP.out _).mono ?_);rintro e w1 ⟨rfl,hs2,hb2⟩;replace hs2:=Hd hs2;replace hb2:=Hd hb2))
   | (go_at_call 136;((with_reducible refine (AN.out _).mono ?_);rintro e w' ⟨rfl,rfl⟩))
   | (go_at_call 135;((with_reducible refine (NG.out _).mono ?_);rintro e w2 ⟨rfl,hd⟩;have hb4:=Hd (below_W (Nat.le_trans hB zq30) hb2.out hd);clear hs2 hb2 hd))
   | (go_at_call 134;((with_reducible refine (sure_no _ _ _ HB.out).mono ?_);rintro e w' ⟨rfl,rfl⟩)))
  exact⟨rfl,alloc_B hB hb4.out,rfl⟩
theorem word_not (B g:Nat) (n:Int) (t:ByteArray) (rv:Value) (L:List Th) (a:Int) (w:World) (hB:B<=w.heap.size) (hs:Stk B w g (.num a :: L).reverse) :
  Calls Tryz.prog 91 #[.pointer (some ⟨g,0,none⟩),.agg #[.int .i64 5,.int .i64 n,.string t],rv] w fun e w'=>OutW B g w (.ok (.num (tv (a == 0)) :: L)) e w':=by
 have PP:=Hd fun o=>pop_top B g L _ (w.alloc o) (hs.alloc _)
 have AN:=Hd fun w=>asNum_ok a w
 have hl:L.reverse.length<64:=by have:=len_le hs;simp at this ⊢;omega
 clear hs;simp only[thE] at PP AN;go_enter Tryz.func91,Tryz.ntmps91
 go_wp2_with (first
  | (go_at_call 92;((with_reducible refine (PP.out _).mono ?_);rintro e w1 ⟨rfl,hs2,hb2⟩;replace hs2:=Hd hs2;replace hb2:=Hd hb2))
  | (go_at_call 136;((with_reducible refine (AN.out _).mono ?_);rintro e w' ⟨rfl,rfl⟩))
  | (go_at_call 137;((with_reducible refine (truth_tv _ _).mono ?_);rintro e w' ⟨rfl,rfl⟩))
  | (go_at_call 132;((with_reducible refine (push_core B g L.reverse (.num (tv (a == 0))) _ _ _ rfl hs2.out hl (size_B hB hb2.out)).mono ?_);rintro e w' ⟨rfl,hs6,hb6⟩)))
 go_end0
 exact⟨alloc_B hB (below_B hb2.out hb6),rfl,by simpa using hs6⟩
theorem word_len (B g:Nat) (n:Int) (t:ByteArray) (rv:Value) (L:List Th) (a:ByteArray) (w:World) (hB:B<=w.heap.size) (hs:Stk B w g (.txt a :: L).reverse) :
  Calls Tryz.prog 91 #[.pointer (some ⟨g,0,none⟩),.agg #[.int .i64 6,.int .i64 n,.string t],rv] w fun e w'=>OutW B g w (.ok (.num a.size :: L)) e w':=by
 have PP:=Hd fun o=>pop_top B g L _ (w.alloc o) (hs.alloc _)
 have AN:=Hd fun w=>asText_ok a w
 have hl:L.reverse.length<64:=by have:=len_le hs;simp at this ⊢;omega
 clear hs;simp only[thE] at PP AN;go_enter Tryz.func91,Tryz.ntmps91
 go_wp2_with (first
  | (go_at_call 92;((with_reducible refine (PP.out _).mono ?_);rintro e w1 ⟨rfl,hs2,hb2⟩;replace hs2:=Hd hs2;replace hb2:=Hd hb2))
  | (go_at_call 138;((with_reducible refine (AN.out _).mono ?_);rintro e w' ⟨rfl,rfl⟩))
  | (go_at_call 132;((with_reducible refine (push_core B g L.reverse (.num a.size) _ _ _ rfl hs2.out hl (size_B hB hb2.out)).mono ?_);rintro e w' ⟨rfl,hs6,hb6⟩)))
 go_end0
 exact⟨alloc_B hB (below_B hb2.out hb6),rfl,by simpa using hs6⟩
def Keeps (g:Nat) (w w':World):Prop := ∀ b,b ≠ g->w'.heap[b]? = w.heap[b]?
theorem Keeps.cell {g:Nat} {w w':World} (h:Keeps g w w') (b o:Nat) (hb:b ≠ g):w'.cell? ⟨b,o,none⟩=w.cell? ⟨b,o,none⟩:=by
 unfold World.cell?;simp only[h b hb]
theorem keeps_set {w:World} {n:Nat} {g:Nat} {v:Value}:Keeps g w ((w.drewN n).setCell ⟨g,0,none⟩ v):=by
 intro b hb;simp[World.setCell,Array.getElem?_modify,Ne.symm hb]
theorem pop_full (B:Nat) (g:Nat) (L:List Th) (x:Th) (w:World) (hs:Stk B w g (L ++ [x])) :
  Calls Tryz.prog 92 #[.pointer (some ⟨g,0,none⟩)] w fun e w'=>e = .returned (thE x)/\Stk B w' g L/\Below B w w'/\Keeps g w w':=by
 obtain⟨hB,hl0,v,h1,h2⟩:=hs;have hl:L.length+1<=64:=by simpa using hl0
 obtain⟨r,cap,rfl,hBr,hrl,hcells⟩:=Kd.R_form h2 zq30;have hlen:(L ++ [x]).length=L.length+1:=by simp
 rw[hlen] at h1 h2;obtain⟨c,hcl,hm,hcell,hfz⟩:=Kd.R_elem h2 x (L.length:Int) zq4 zq33;have hx:c=[thE x]:=by
  have:kTh.M w B (fun k=>True/\k ≠ r) ((L ++ [x]).getD (L.length:Int).toNat x) c:=hm;have e:(L ++ [x]).getD (L.length:Int).toNat x=x:=by simp[List.getD]
  rw[e] at this;exact this
 have hread:=hcell 0 (thE x) (by rw[hx];rfl);have e1:(L.length:Int).toNat*kTh.sz+0=L.length:=by simp[kTh,Kd.scalar]
 rw[e1] at hread;have htake:kTh.R 119 w B (fun _=>True) (.slice (some ⟨r,0,none⟩) L.length cap) L:=by
  have:=Kd.R_take (m:=L.length) h2 zq30
  simpa using this
 have hcap:L.length+1<=cap:=by
  obtain⟨A,cc,he,hle,_⟩:=Kd.R_reads h2;injection he with _ _ e
  rw[hlen] at hle;omega
 have HO:=Aside0.mk htake;have HG:=Aside0.mk h1;have hc:w.cell? ⟨g,0,none⟩=some (.slice (some ⟨r,0,none⟩) (L.length+1) cap):=by simp[World.cell?,h1]
 have hf:w.frozen? ⟨g,0,none⟩=false:=by simp[World.frozen?,h1]
 have hneg:r ≠ g:=by
  rintro rfl;obtain⟨cells,hce⟩:=hcells;rw[h1] at hce;simp at hce
 clear h1 h2 hcells hm hx hcl hcell hfz htake hl0 hlen e1;go_enter Tryz.func92,Tryz.ntmps92;go_wp2
 go_quiet (fail)
 all_goals go_wp2
 go_region
 all_goals go_wp2
 all_goals go_ret
 all_goals exact⟨rfl,Stk.store (w:=w.drewN _) hB zq4 HG.out (Kd.R_drewN HO.out _),(pw_below_drewN (Below.refl B w) _).setCell hB _,keeps_set⟩
theorem Stk.lt {B g:Nat} {w:World} {L:List Th} (h:Stk B w g L):g<w.heap.size:=by
 obtain⟨hB,hl,v,h1,h2⟩:=h
 rcases Nat.lt_or_ge g w.heap.size with c | c
 ·exact c
 ·rw[Array.getElem?_eq_none c] at h1;simp at h1
theorem pop_keep (B:Nat) (g:Nat) (L:List Th) (x:Th) (w:World) (hs:Stk B w g (x :: L).reverse) (q:Nat) (hq:q ≠ g) (v:Value) (hc:w.cell? ⟨q,0,none⟩=some v) :
  Calls Tryz.prog 92 #[.pointer (some ⟨g,0,none⟩)] w fun e w'=>e = .returned (thE x)/\Stk B w' g L.reverse/\Below B w w'/\w'.cell? ⟨q,0,none⟩=some v:=by
 rw[List.reverse_cons] at hs;refine (pop_full B g L.reverse x w hs).mono ?_;rintro e w' ⟨he,h1,h2,h3⟩;exact⟨he,h1,h2,(h3.cell q 0 hq).trans hc⟩
theorem dummyAny {P:Program} {w:World} {C:Prop} (_:wpAny P .any #[] (fun _ _ _=>True) 0 #[] { tmps:=#[],defers:=[] } w) (h:C):C:=h
theorem drew_cell {w:World} {a:Addr} {v:Value} (h:w.cell? a=some v):w.drew.cell? a=some v:=h
theorem Stk.drew {B g:Nat} {w:World} {L:List Th} (h:Stk B w g L):Stk B w.drew g L:=h.below (below_drew1 (Below.refl _ _))
theorem word_pair (B g:Nat) (c n:Int) (t:ByteArray) (rv:Value) (L:List Th) (x y z:Th) (w:World) (hB:B<=w.heap.size) (hs:Stk B w g (y :: x :: L).reverse)
  (c1:(c == 1)=false) (c2:(c == 2)=false) (c3:(c == 3)=false) (c4:(c == 4)=false) (c5:(c == 5)=false) (c6:(c == 6)=false)
  (hp:∀ w,Calls Tryz.prog 139 #[.int .i64 c,thE x,thE y] w fun e w'=>e = .returned (thE z)/\Below w.heap.size w w') :
  Calls Tryz.prog 91 #[.pointer (some ⟨g,0,none⟩),.agg #[.int .i64 c,.int .i64 n,.string t],rv] w fun e w'=>OutW B g w (.ok (z :: L)) e w':=by
 have hl:L.reverse.length<64:=by have:=len_le hs;simp at this ⊢;omega
 have hg:w.heap.size ≠ g:=Nat.ne_of_gt hs.lt;have PP:=Hd fun (w1:World) (hc1:w1.cell? ⟨w.heap.size,0,none⟩=some (.int .i64 c))=>(hp w1).mono (R':=fun e w'=>e = .returned (thE z)/\Below w1.heap.size w1 w'/\w'.cell? ⟨w.heap.size,0,none⟩=some (.int .i64 c)) fun e w' he=>⟨he.1,he.2,((g_bcell he.2).1 _ _ (World.block_lt_of_cell? w1 _ hc1)).trans hc1⟩
 have HS:=Hd hs;clear hs hp;rw[thE_m x,thE_m y,thE_m z] at PP;have hw:=Hd (Nat.le_trans hB (Nat.le_succ _));go_enter Tryz.func91,Tryz.ntmps91
 go_upto_region 3 with ((go_at_call 92;((with_reducible refine (pop_keep B g (x :: L) y _ (HS.out.alloc _) w.heap.size hg (.int .i64 c) (by simp[go_sem])).mono ?_);rintro e w1 ⟨rfl,hs2,hb2,hc⟩;replace hs2:=Hd hs2.drew;replace hb2:=Hd (below_drew1 hb2);replace hc:=drew_cell hc)))
 rw[thE_m y]
 all_goals
  go_region_with (first
   | (go_at_call 92;((with_reducible refine (pop_keep B g L x _ hs2.out w.heap.size hg (.int .i64 c) hc).mono ?_);rintro e w3 ⟨rfl,hs3,hb3,hc3⟩;rw[thE_m x];replace hs3:=Hd hs3;replace hb3:=Hd (below_B hb2.out hb3);clear hb2 hs2))
   | (go_at_call 139;((with_reducible refine (PP.out _ hc3).mono ?_);rintro e w4 ⟨rfl,hb4,hc4⟩;replace hs3:=Hd (hs3.out.below hb4);replace hb3:=Hd (below_W (Nat.le_trans hB zq30) hb3.out hb4);clear hb4))
   | (go_at_call 132;((with_reducible refine (push_core B g L.reverse z _ _ _ (thE_m z) hs3.out hl (size_B hB hb3.out)).mono ?_);rintro e w6 ⟨rfl,hs6,hb6⟩)))
 all_goals
  go_wp2
  go_end0
  exact⟨alloc_B hB (below_B hb3.out hb6),rfl,by simpa using hs6⟩
theorem word_pair_no (B g:Nat) (c n:Int) (t:ByteArray) (rv:Value) (L:List Th) (x y:Th) (why:Int) (w:World) (hB:B<=w.heap.size) (hs:Stk B w g (y :: x :: L).reverse)
  (c1:(c == 1)=false) (c2:(c == 2)=false) (c3:(c == 3)=false) (c4:(c == 4)=false) (c5:(c == 5)=false) (c6:(c == 6)=false)
  (hp:∀ w,Calls Tryz.prog 139 #[.int .i64 c,thE x,thE y] w fun e w'=>e = .panicked (fault why)/\Below w.heap.size w w') :
  Calls Tryz.prog 91 #[.pointer (some ⟨g,0,none⟩),.agg #[.int .i64 c,.int .i64 n,.string t],rv] w fun e w'=>OutW B g w (.error why) e w':=by
 have hl:L.reverse.length<64:=by have:=len_le hs;simp at this ⊢;omega
 have hg:w.heap.size ≠ g:=Nat.ne_of_gt hs.lt;have PP:=Hd fun (w1:World) (hc1:w1.cell? ⟨w.heap.size,0,none⟩=some (.int .i64 c))=>(hp w1).mono (R':=fun e w'=>e = .panicked (fault why)/\Below w1.heap.size w1 w'/\w'.cell? ⟨w.heap.size,0,none⟩=some (.int .i64 c)) fun e w' he=>⟨he.1,he.2,((g_bcell he.2).1 _ _ (World.block_lt_of_cell? w1 _ hc1)).trans hc1⟩
 have HS:=Hd hs;clear hs hp;rw[thE_m x,thE_m y] at PP;have hw:=Hd (Nat.le_trans hB (Nat.le_succ _));go_enter Tryz.func91,Tryz.ntmps91
 go_upto_region 3 with ((go_at_call 92;((with_reducible refine (pop_keep B g (x :: L) y _ (HS.out.alloc _) w.heap.size hg (.int .i64 c) (by simp[go_sem])).mono ?_);rintro e w1 ⟨rfl,hs2,hb2,hc⟩;replace hs2:=Hd hs2.drew;replace hb2:=Hd (below_drew1 hb2);replace hc:=drew_cell hc)))
 rw[thE_m y]
 all_goals
  go_region_with (first
   | (go_at_call 92;((with_reducible refine (pop_keep B g L x _ hs2.out w.heap.size hg (.int .i64 c) hc).mono ?_);rintro e w3 ⟨rfl,hs3,hb3,hc3⟩;rw[thE_m x];replace hs3:=Hd hs3;replace hb3:=Hd (below_B hb2.out hb3);clear hb2 hs2))
   | (go_at_call 139;((with_reducible refine (PP.out _ hc3).mono ?_);rintro e w4 ⟨rfl,hb4,hc4⟩;replace hb3:=Hd (below_W (Nat.le_trans hB zq30) hb3.out hb4);clear hb4;refine dummyAny (P:=Tryz.prog) (w:=w) ?_ ⟨rfl,alloc_B hB hb3.out,rfl⟩)))
 all_goals trivial
def wordS (k:Nat) (o:S68) (row:List S65) (L:List Th):Option (Except Int (List Th)) :=
 if o.f0=1 then (if L.length<64 then some (.ok (.num o.f1 :: L)) else none)
 else if o.f0=2 then (if L.length<64 then some (.ok (.txt o.f2 :: L)) else none)
 else if o.f0=3 then (if o.f1<(row.length:Int) then (if 0<=o.f1/\L.length<64 then some (.ok (getTh (rd_T65 row o.f1) :: L)) else none) else some (.error 3))
 else if o.f0=4 then (match L with
  | .num a :: L=>(num_Neg.f k a).map fun r=>(sureS r).map fun m=>.num m :: L
  | .txt _ :: _=>some (.error 12)
  | []=>none)
 else if o.f0=5 then (match L with
  | .num a :: L=>some (.ok (.num (tv (a == 0)) :: L))
  | .txt _ :: _=>some (.error 12)
  | []=>none)
 else if o.f0=6 then (match L with
  | .txt a :: L=>some (.ok (.num a.size :: L))
  | .num _ :: _=>some (.error 12)
  | []=>none)
 else (match L with
  | y :: x :: L=>(pairS k o.f0 x y).map fun r=>r.map fun z=>z :: L
  | _=>none)
theorem word_calls (k:Nat) (B g:Nat) (o:S68) (A:Option Addr) (row:List S65) (cap:Nat) (L:List Th) (r:Except Int (List Th)) (w:World) (hB:B<=w.heap.size) (hs:Stk B w g L.reverse)
  (hr:Kd.C k65 w A row.length row) (hc:row.length<=cap) (h:wordS k o row L=some r) :
  Calls Tryz.prog 91 #[.pointer (some ⟨g,0,none⟩),.agg #[.int .i64 o.f0,.int .i64 o.f1,.string o.f2],.slice A row.length cap] w fun e w'=>OutW B g w r e w':=by
 obtain⟨c,n,t⟩:=o;unfold wordS at h;simp only at h ⊢
 split at h
 ·rename_i h1
  subst h1
  split at h
  ·obtain rfl:=OSI h
   exact word_num B g n t _ L w hB hs (by assumption)
  ·simp at h
 split at h
 ·rename_i h1
  subst h1
  split at h
  ·obtain rfl:=OSI h
   exact word_str B g n t _ L w hB hs (by assumption)
  ·simp at h
 split at h
 ·rename_i h1
  subst h1
  split at h
  ·split at h
   ·rename_i h2 h3
    obtain rfl:=OSI h;exact word_get B g n t A row cap L w hB hs h3.2 hr hc h3.1 (DET h2)
   ·simp at h
  ·rename_i h2
   obtain rfl:=OSI h;exact word_get_no B g n t A row.length cap w hB (DEF h2)
 split at h
 ·rename_i h1
  subst h1
  split at h
  ·obtain⟨x,hx,rfl⟩:=Option.map_eq_some_iff.1 h
   exact word_neg B g n t _ _ _ k x w hB hs hx
  ·obtain rfl:=OSI h
   exact word_one_no B g 4 n t _ _ _ w hB hs (.inl ⟨⟨_,rfl⟩,.inl rfl⟩)
  ·simp at h
 split at h
 ·rename_i h1
  subst h1
  split at h
  ·obtain rfl:=OSI h
   exact word_not B g n t _ _ _ w hB hs
  ·obtain rfl:=OSI h
   exact word_one_no B g 5 n t _ _ _ w hB hs (.inl ⟨⟨_,rfl⟩,.inr rfl⟩)
  ·simp at h
 split at h
 ·rename_i h1
  subst h1
  split at h
  ·obtain rfl:=OSI h
   exact word_len B g n t _ _ _ w hB hs
  ·obtain rfl:=OSI h
   exact word_one_no B g 6 n t _ _ _ w hB hs (.inr ⟨⟨_,rfl⟩,rfl⟩)
  ·simp at h
 ·rename_i h1 h2 h3 h4 h5 h6
  split at h
  ·rename_i y x L
   obtain⟨v,hv,rfl⟩:=Option.map_eq_some_iff.1 h;have hp:=fun w=>pair_calls k c x y v w hv
   cases v with
   | ok z=>exact word_pair B g c n t _ L x y z w hB hs (beq_eq_false_iff_ne.2 h1) (beq_eq_false_iff_ne.2 h2) (beq_eq_false_iff_ne.2 h3) (beq_eq_false_iff_ne.2 h4) (beq_eq_false_iff_ne.2 h5) (beq_eq_false_iff_ne.2 h6) hp
   | error z=>exact word_pair_no B g c n t _ L x y z w hB hs (beq_eq_false_iff_ne.2 h1) (beq_eq_false_iff_ne.2 h2) (beq_eq_false_iff_ne.2 h3) (beq_eq_false_iff_ne.2 h4) (beq_eq_false_iff_ne.2 h5) (beq_eq_false_iff_ne.2 h6) hp
  ·simp at h
theorem catch_idle (p q:Value) (w:World) :
  CallsD Tryz.prog 90 #[p,q] .returning w fun e u' w'=>e = .returned (.tuple #[])/\u' = .returning/\w'=w:=by
 refine callsD_of_wpS Tryz.func90 rfl fun c₀ cs hu=>?_
 apply wpS_seq;apply wpS_region;simp[wpOpsS,go_sem,recoverD,hu,Tryz.ntmps90,Exit.thenS];apply wpS_seq;apply wpS_region;simp[wpOpsS,go_sem,recoverD,hu,Tryz.ntmps90,Exit.thenS];refine wpS_cond (t:=false) (by simp[Act.eval,Array.replicate]) ?_;simp only[Bool.false_eq_true,if_false];refine wpS_of_wp (wp_skip ?_);cases c₀;simp_all [bodyPostS,results,Tryz.results90]
theorem tF:∀ (v:Value) (W:World),(Instr.typeAssert (.iface 111 v) 20 111 true).run Tryz.prog W = .ok (.tuple #[v,.bool true]) W:=fun v W=>by rfl
theorem catch_panicking (b why:Int) (g:Nat) (x0 x1 x2 y:Value) (older:List PanicEntry) (w:World)
  (h0:w.cell? ⟨g,0,none⟩=some x0) (h1:w.cell? ⟨g,1,none⟩=some x1) (h2:w.cell? ⟨g,2,none⟩=some x2) (h3:w.cell? ⟨g+1,0,none⟩=some y)
  (z0:w.frozen? ⟨g,0,none⟩=false) (z1:w.frozen? ⟨g,1,none⟩=false) (z2:w.frozen? ⟨g,2,none⟩=false) (z3:w.frozen? ⟨g+1,0,none⟩=false) :
  CallsD Tryz.prog 90 #[.pointer (some ⟨g,0,none⟩),.pointer (some ⟨g+1,0,none⟩)] (.panicking ({ v:=.iface 111 (.agg #[.int .i64 why]),recovered:=false } :: older)) w fun e u' w' =>
   e = .returned (.tuple #[])/\u' = .panicking ({ v:=.iface 111 (.agg #[.int .i64 why]),recovered:=true } :: older) /\
   w'.cell? ⟨g,0,none⟩=some (.int .i64 0)/\w'.cell? ⟨g,1,none⟩=some (.int .i64 0)/\w'.cell? ⟨g,2,none⟩=some (.string ⟨#[]⟩)/\w'.cell? ⟨g+1,0,none⟩=some (.int .i64 why)/\Below g w w':=by
 refine callsD_of_wpS Tryz.func90 rfl fun c₀ cs hu=>?_
 have tf:=tF;apply wpS_seq;apply wpS_region;simp[wpOpsS,go_sem,recoverD,hu,Tryz.ntmps90,Exit.thenS];apply wpS_seq;apply wpS_region;simp[wpOpsS,go_sem,recoverD,hu,Tryz.ntmps90,Exit.thenS];refine wpS_cond (t:=true) (by simp[Act.eval,Array.replicate]) ?_;simp only[if_true];refine wpS_of_wp ?_;generalize hQ:(fun e a' w'=>bodyPostS Tryz.prog Tryz.f90 c₀ cs _ e a' _ w')=Q
 change Code.wp _ _ _ { tmps:=#[.pointer (some ⟨g,0,none⟩),.pointer (some ⟨g+1,0,none⟩),.iface 111 (.agg #[.int .i64 why]),undef,undef,.iface 111 (.agg #[.int .i64 why]),.iface 111 (.agg #[.int .i64 why]),.bool true,undef,undef,undef,undef,undef,undef,undef,undef,undef,undef,undef],defers:=[] } _
 clear hu;have hlt:=World.block_lt_of_cell? w _ h0;have hlt3:=World.block_lt_of_cell? w _ h3;simp only at hlt hlt3;have hA:=fun o:Obj=>g_bcell ((Below.refl w.heap.size w).alloc (Nat.le_refl _) o)
 have a0:=fun o=>((hA o).1 g 0 hlt).trans h0
 have a1:=fun o=>((hA o).1 g 1 hlt).trans h1
 have a2:=fun o=>((hA o).1 g 2 hlt).trans h2
 have a3:=fun o=>((hA o).1 (g+1) 0 hlt3).trans h3
 have y0:=fun o=>((hA o).2 g 0 hlt).trans z0
 have y1:=fun o=>((hA o).2 g 1 hlt).trans z1
 have y2:=fun o=>((hA o).2 g 2 hlt).trans z2
 have y3:=fun o=>((hA o).2 (g+1) 0 hlt3).trans z3
 clear hA;go_wp2
 go_region
 generalize hW:((w.setCell ⟨g,0,none⟩ (.int .i64 0)).setCell ⟨g,1,none⟩ (.int .i64 0)).setCell ⟨g,2,none⟩ (.string ⟨#[]⟩)=W;have e0:W.cell? ⟨g,0,none⟩=some (.int .i64 0):=by subst hW;simp[go_sem,h0,h1,h2]
 have e1:W.cell? ⟨g,1,none⟩=some (.int .i64 0):=by subst hW;simp[go_sem,h0,h1,h2]
 have e2:W.cell? ⟨g,2,none⟩=some (.string ⟨#[]⟩):=by subst hW;simp[go_sem,h0,h1,h2]
 have e3:W.cell? ⟨g+1,0,none⟩=some y:=by subst hW;simp[go_sem,h3]
 have eb:Below g w W:=by
  subst hW;exact (((Below.refl _ _).setCell (p:=⟨g,0,none⟩) (Nat.le_refl _) _).setCell (p:=⟨g,1,none⟩) (Nat.le_refl _) _).setCell (p:=⟨g,2,none⟩) (Nat.le_refl _) _
 have esz:W.heap.size=w.heap.size:=by subst hW;simp
 clear hW;generalize hV:W.setCell ⟨g+1,0,none⟩ (.int .i64 why)=V;have f0:V.cell? ⟨g,0,none⟩=some (.int .i64 0):=by subst hV;simp[go_sem,e0]
 have f1:V.cell? ⟨g,1,none⟩=some (.int .i64 0):=by subst hV;simp[go_sem,e1]
 have f2:V.cell? ⟨g,2,none⟩=some (.string ⟨#[]⟩):=by subst hV;simp[go_sem,e2]
 have f3:V.cell? ⟨g+1,0,none⟩=some (.int .i64 why):=by subst hV;simp[go_sem,e3]
 have fb:Below g w V:=by subst hV;exact eb.setCell (p:=⟨g+1,0,none⟩) zq30 _
 have fsz:V.heap.size=w.heap.size:=by subst hV;simp[esz]
 clear hV;have hB:=fun o:Obj=>g_bcell ((Below.refl V.heap.size V).alloc (Nat.le_refl _) o)
 have fin:(V.alloc (Obj.cells #[.int .i64 why] 111)).drew.cell? ⟨g,0,none⟩=some (.int .i64 0)/\(V.alloc (Obj.cells #[.int .i64 why] 111)).drew.cell? ⟨g,1,none⟩=some (.int .i64 0)/\(V.alloc (Obj.cells #[.int .i64 why] 111)).drew.cell? ⟨g,2,none⟩=some (.string ⟨#[]⟩)/\(V.alloc (Obj.cells #[.int .i64 why] 111)).drew.cell? ⟨g+1,0,none⟩=some (.int .i64 why)/\Below g w (V.alloc (Obj.cells #[.int .i64 why] 111)).drew :=
  ⟨((hB _).1 _ _ zq4).trans f0,((hB _).1 _ _ zq4).trans f1,((hB _).1 _ _ zq4).trans f2,((hB _).1 _ _ zq4).trans f3,below_drew1 (fb.alloc zq4 _)⟩
 generalize (V.alloc (Obj.cells #[.int .i64 why] 111)).drew=U at *;subst hQ;cases c₀;simp only[bodyPostS];exact⟨trivial,_,rfl,_,results_none rfl _ _ _,rfl,rfl,fin⟩
def wordsS (k:Nat) (row:List S65):List S68->List Th->Option (Except Int (List Th))
 | [],L=>some (.ok L)
 | o :: os,L=>(wordS k o row L).bind fun r=>match r with
  | .error why=>some (.error why)
  | .ok L'=>wordsS k row os L'
def EvOut (r:Int × Int × ByteArray × Int) (e:Ending):Prop:=e = .returned (.tuple #[.agg #[.int .i64 r.1,.int .i64 r.2.1,.string r.2.2.1],.int .i64 r.2.2.2])
structure Res (g:Nat) (w:World) (x0 x1 x2 y:Value):Prop where
 c0:w.cell? ⟨g,0,none⟩=some x0
 c1:w.cell? ⟨g,1,none⟩=some x1
 c2:w.cell? ⟨g,2,none⟩=some x2
 c3:w.cell? ⟨g+1,0,none⟩=some y
 z0:w.frozen? ⟨g,0,none⟩=false
 z1:w.frozen? ⟨g,1,none⟩=false
 z2:w.frozen? ⟨g,2,none⟩=false
 z3:w.frozen? ⟨g+1,0,none⟩=false
 lt:g+1<w.heap.size
theorem Res.below {g:Nat} {w w':World} {x0 x1 x2 y:Value} {B:Nat} (h:Res g w x0 x1 x2 y) (hb:Below B w w') (hB:g+1<B) (hBw:B<=w.heap.size):Res g w' x0 x1 x2 y:=by
 obtain⟨c0,c1,c2,c3,z0,z1,z2,z3,lt⟩:=h;have hh:∀ b o,b<B->w'.cell? ⟨b,o,none⟩=w.cell? ⟨b,o,none⟩:=by
  intro b o hb';unfold World.cell?;simp only[hb.block b hb']
 have hz:∀ b o,b<B->w'.frozen? ⟨b,o,none⟩=w.frozen? ⟨b,o,none⟩:=by
  intro b o hb';unfold World.frozen?;simp only[hb.block b hb']
 exact⟨(hh _ _ zq4).trans c0,(hh _ _ zq4).trans c1,(hh _ _ zq4).trans c2,(hh _ _ hB).trans c3,(hz _ _ zq4).trans z0,(hz _ _ zq4).trans z1,(hz _ _ zq4).trans z2,(hz _ _ hB).trans z3,Nat.lt_of_lt_of_le lt hb.size⟩
theorem res_new (w:World):Res w.heap.size ((w.alloc (Obj.cells #[.int .i64 0,.int .i64 0,.string ⟨#[]⟩] 65)).alloc (Obj.cells #[.int .i64 0] 27)) (.int .i64 0) (.int .i64 0) (.string ⟨#[]⟩) (.int .i64 0):=by
 refine⟨?_,?_,?_,?_,?_,?_,?_,?_,?_⟩
 all_goals simp[go_sem]
theorem eval_form (A0:Option Addr) (c0:Nat) (l0:List S68) (rv:Value) (f:Int) (w:World) (hf:(f != 0)=true)
  (CF:∀ w',Below w.heap.size w w'->Calls Tryz.prog 47 #[.slice A0 l0.length c0] w' fun e w''=>e = .returned (.int .i64 f)/\Below w'.heap.size w' w'') :
  Calls Tryz.prog 56 #[.slice A0 l0.length c0,rv] w fun e w'=>EvOut (0,0,⟨#[]⟩,f) e/\Below w.heap.size w w':=by
 have R0:=Hd (res_new w);have CF:=Hd fun o1 o2=>CF ((w.alloc o1).alloc o2) (((Below.refl _ _).alloc (Nat.le_refl _) _).alloc zq30 _)
 go_enter_defers Tryz.func56,Tryz.ntmps56
 go_wp2_with (go_at_call 47;((with_reducible refine (CF.out _ _).mono ?_);rintro e w1 ⟨rfl,hb⟩;obtain⟨a0,a1,a2,a3,z0,z1,z2,z3,lt⟩:=R0.out.below hb zq30 (Nat.le_refl _);replace hb:=Hd (show Below w.heap.size w w1 from (((Below.refl _ _).alloc (Nat.le_refl _) _).alloc zq30 _).trans (hb.mono zq33))))
 simp[bodyPostD,Leaves,results,Tryz.results56,go_sem,a0,a1,a2,a3];exact⟨rfl,(((hb.out.setCell (Nat.le_refl _) _).setCell (Nat.le_refl _) _).setCell (Nat.le_refl _) _).setCell zq30 _⟩
theorem eval_may (A0:Option Addr) (c0:Nat) (l0:List S68) (rv:Value) (w:World)
  (CF:∀ w',Below w.heap.size w w'->Calls Tryz.prog 47 #[.slice A0 l0.length c0] w' fun e w''=>e = .returned (.int .i64 0)/\Below w'.heap.size w' w'')
  (CM:∀ w',Below w.heap.size w w'->Calls Tryz.prog 77 #[rv] w' fun e w''=>e = .returned (.bool false)/\Below w'.heap.size w' w'') :
  Calls Tryz.prog 56 #[.slice A0 l0.length c0,rv] w fun e w'=>EvOut (0,0,⟨#[]⟩,2) e/\Below w.heap.size w w':=by
 have R0:=Hd (res_new w);have CF:=Hd fun o1 o2=>CF ((w.alloc o1).alloc o2) (((Below.refl _ _).alloc (Nat.le_refl _) _).alloc zq30 _)
 have CM:=Hd CM
 go_enter_defers Tryz.func56,Tryz.ntmps56
 go_wp2_with (first
  | (go_at_call 47;((with_reducible refine (CF.out _ _).mono ?_);rintro e w1 ⟨rfl,hb⟩;have R1:=Hd (R0.out.below hb zq30 (Nat.le_refl _));replace hb:=Hd (show Below w.heap.size w w1 from (((Below.refl _ _).alloc (Nat.le_refl _) _).alloc zq30 _).trans (hb.mono zq33))))
  | (go_at_call 77;((with_reducible refine (CM.out _ hb.out).mono ?_);rintro e w2 ⟨rfl,hb2⟩;obtain⟨a0,a1,a2,a3,z0,z1,z2,z3,lt⟩:=R1.out.below hb2 R1.out.lt (Nat.le_refl _);replace hb:=Hd (g_bel hb.out hb2);clear hb2)))
 simp[bodyPostD,Leaves,results,Tryz.results56,go_sem,a0,a1,a2,a3];exact⟨rfl,(((hb.out.setCell (Nat.le_refl _) _).setCell (Nat.le_refl _) _).setCell (Nat.le_refl _) _).setCell zq30 _⟩
theorem stk_new (w:World):(w.alloc (Obj.cells #[.slice none 0 0] 116)).heap[w.heap.size]? = some (.cells #[.slice none 0 0] 116 (0,0)):=by
 unfold World.alloc;exact Array.getElem?_push_size
def endS:Except Int (List Th)->Option (Int × Int × ByteArray × Int)
 | .error why=>some (0,0,⟨#[]⟩,why)
 | .ok (x :: _)=>some ((thVal3 x).1,(thVal3 x).2.1,(thVal3 x).2.2,0)
 | .ok []=>none
theorem eval_run (k:Nat) (A0:Option Addr) (c0:Nat) (l0:List S68) (A1:Option Addr) (c1:Nat) (l1:List S65) (r:Except Int (List Th)) (out:Int × Int × ByteArray × Int) (w:World)
  (hr0:Kd.C k68 w A0 l0.length l0) (hr1:Kd.C k65 w A1 l1.length l1) (hc1:l1.length<=c1) (hl0:l0.length<=64)
  (CF:∀ w',Below w.heap.size w w'->Calls Tryz.prog 47 #[.slice A0 l0.length c0] w' fun e w''=>e = .returned (.int .i64 0)/\Below w'.heap.size w' w'')
  (CM:∀ w',Below w.heap.size w w'->Calls Tryz.prog 77 #[.slice A1 l1.length c1] w' fun e w''=>e = .returned (.bool true)/\Below w'.heap.size w' w'')
  (h:wordsS k l1 l0 []=some r) (hout:endS r=some out) :
  Calls Tryz.prog 56 #[.slice A0 l0.length c0,.slice A1 l1.length c1] w fun e w'=>EvOut out e/\Below w.heap.size w w':=by
 have R0:=Hd (res_new w);have CF:=Hd fun o1 o2=>CF ((w.alloc o1).alloc o2) (((Below.refl _ _).alloc (Nat.le_refl _) _).alloc zq30 _)
 have CM:=Hd CM;have HR0:=Hd hr0;have HR1:=Hd hr1;have H:=Hd h;have HOUT:=Hd hout;clear hr0 hr1 h hout;have hmf:∀ (fn:Fn) (first cap:Array Value) (w:World),(Instr.makeFunc fn first cap).run Tryz.prog w = .ok (.func fn first cap) w:=fun _ _ _ _=>rfl
 go_enter_defers Tryz.func56,Tryz.ntmps56
 go_wp2_with (first
  | (go_at_call 47;((with_reducible refine (CF.out _ _).mono ?_);rintro e w1 ⟨rfl,hb⟩;have R1:=Hd (R0.out.below hb zq30 (Nat.le_refl _));replace hb:=Hd (show Below w.heap.size w w1 from (((Below.refl _ _).alloc (Nat.le_refl _) _).alloc zq30 _).trans (hb.mono zq33))))
  | (go_at_call 77;((with_reducible refine (CM.out _ hb.out).mono ?_);rintro e w2 ⟨rfl,hb2⟩;have R2:=Hd (R1.out.below hb2 R1.out.lt (Nat.le_refl _));replace hb:=Hd (g_bel hb.out hb2);clear hb2)))
 have R3:=Hd (fun o=>R2.out.below ((Below.refl _ _).alloc (Nat.le_refl _) o) R2.out.lt (Nat.le_refl _))
 go_loopw [25] (fun v25 wr=>∃ (i:Nat) (L:List Th),i<=l0.length/\v25 = .int .i64 (i:Int)/\Aside0 (wordsS k l1 (l0.drop i) L=some r)/\Aside0 (Stk w2.heap.size wr w2.heap.size L.reverse)/\Aside0 (Below w2.heap.size w2 wr)) (fun v25 wr=>l0.length - (intOf v25).toNat)
 case atStart=>exact⟨0,[],by omega,rfl,⟨H.out⟩,⟨⟨Nat.le_refl _,by simp,_,stk_new w2,Kd.R_nil _ _ _ _ _⟩⟩,⟨(Below.refl _ _).alloc (Nat.le_refl _) _⟩⟩
 case round =>
  obtain⟨i,L,hi,rfl,HW,HS,HB⟩:=hrel;have HBw:=Hd (hb.out.trans (HB.out.mono hb.out.size));have R4:=Hd (R2.out.below HB.out R2.out.lt (Nat.le_refl _));clear H
  by_cases c:i<l0.length
  ·obtain⟨ad,e1,hx0,hx1,hx2⟩:=at_T68 (Kd.C_below HR0.out HBw.out) (i:Int) zq4 zq4
   cases e1;rw[Int.toNat_natCast] at hx0 hx1 hx2;have hg:rd_T68 l0 (i:Int)=l0[i]:=by unfold rd_T68;rw[Int.toNat_natCast,List.getD_eq_getElem?_getD,List.getElem?_eq_getElem c];rfl
   rw[hg] at hx0 hx1 hx2;have hw:=HW.out;rw[List.drop_eq_getElem_cons c] at hw;unfold wordsS at hw;obtain⟨r1,hr1,hw2⟩:=Option.bind_eq_some_iff.1 hw;have WC:=Hd fun W (hbW:Below w2.heap.size w2 W) (hs:Stk w2.heap.size W w2.heap.size L.reverse)=>word_calls k w2.heap.size w2.heap.size l0[i] A1 l1 c1 L r1 W hbW.size hs (Kd.C_below HR1.out (hb.out.trans (hbW.mono hb.out.size))) hc1 hr1
   generalize l0[i]=op at *;have HW2:=Hd hw2;clear hr1 hg hw hw2 HW;cases r1 with
   | ok L1 =>
    go_wp2_with (go_at_call 91;((with_reducible refine (WC.out _ ?_ ?_).mono ?_);exact HB.out.alloc HB.out.size _;exact HS.out.alloc _;rintro e w5 ⟨hb5,rfl,hs5⟩))
    go_roundw
    case rel=>exact⟨i+1,L1,by omega,by go_num,⟨HW2.out⟩,⟨hs5⟩,⟨(HB.out.alloc HB.out.size _).trans hb5⟩⟩
    case measure=>simp[intOf];omega
   | error why =>
    obtain rfl:r = .error why:=(OSI HW2.out).symm;obtain rfl:(0,0,⟨#[]⟩,why)=out:=OSI HOUT.out
    go_wp2_with (go_at_call 91;((with_reducible refine (WC.out _ ?_ ?_).mono ?_);exact HB.out.alloc HB.out.size _;exact HS.out.alloc _;rintro e w5 ⟨hb5,rfl⟩))
    refine leaves_cons (f:=90) (args:=#[.pointer (some ⟨w.heap.size,0,none⟩),.pointer (some ⟨w.heap.size+1,0,none⟩)]) zq30 (by simp[go_sem]) ?_;have R5:=(R4.out.below ((Below.refl _ _).alloc (Nat.le_refl _) _) R4.out.lt (Nat.le_refl _)).below hb5 R2.out.lt (Nat.le_trans HB.out.size zq30);obtain⟨a0,a1,a2,a3,z0,z1,z2,z3,lt⟩:=R5;refine (catch_panicking 0 why w.heap.size _ _ _ _ [] _ a0 a1 a2 a3 z0 z1 z2 z3).mono ?_;rintro e u' w6 ⟨rfl,rfl,b0,b1,b2,b3,hb6⟩;have hfin:Below w.heap.size w w6:=(hb.out.trans (((HB.out.alloc HB.out.size _).trans hb5).mono hb.out.size)).trans hb6;simp[Leaves,settle,results,Tryz.results56,go_sem,b0,b1,b2,b3];exact⟨rfl,hfin⟩
  ·have hil:i=l0.length:=by omega
   subst hil;have hw:=HW.out;rw[List.drop_length] at hw;obtain rfl:r = .ok L:=(OSI hw).symm;clear hw HW;cases L with
   | nil=>exact absurd HOUT.out (by simp[endS])
   | cons x L =>
    obtain rfl:((thVal3 x).1,(thVal3 x).2.1,(thVal3 x).2.2,0)=out:=OSI HOUT.out;clear HOUT;have PT:=Hd (pop_top w2.heap.size w2.heap.size L x wr HS.out);cases x with
    | num n =>
     have m1:=fun f w=>m_method (.num n) f w
     simp only[mTy,mVal,mFn] at m1;simp only[thE] at PT
     go_wp2_with (first
      | (go_at_call 92;((with_reducible refine PT.out.mono ?_);rintro e w5 ⟨rfl,hs5,hb5⟩;have R5:=Hd (R4.out.below hb5 R2.out.lt HB.out.size)))
      | (go_at_call 210;((with_reducible refine (numValue_calls _ _).mono ?_);rintro e w6 ⟨rfl,hb6⟩;obtain⟨a0,a1,a2,a3,z0,z1,z2,z3,lt⟩:=R5.out.below hb6 R5.out.lt (Nat.le_refl _))))
     refine leaves_cons (f:=90) (args:=#[.pointer (some ⟨w.heap.size,0,none⟩),.pointer (some ⟨w.heap.size+1,0,none⟩)]) zq30 (by simp[go_sem]) ?_;refine (catch_idle _ _ _).mono ?_;rintro e u' w7 ⟨rfl,rfl,rfl⟩;have hfin:Below w.heap.size w w6:=(hb.out.trans ((HB.out.trans hb5).mono hb.out.size)).trans (hb6.mono (Nat.le_trans hb.out.size (Nat.le_trans HB.out.size hb5.size)));simp[Leaves,settle,results,Tryz.results56,go_sem,a0,a1,a2,a3];exact⟨rfl,(((hfin.setCell (Nat.le_refl _) _).setCell (Nat.le_refl _) _).setCell (Nat.le_refl _) _).setCell zq30 _⟩
    | txt t =>
     have m1:=fun f w=>m_method (.txt t) f w
     simp only[mTy,mVal,mFn] at m1;simp only[thE] at PT
     go_wp2_with (first
      | (go_at_call 92;((with_reducible refine PT.out.mono ?_);rintro e w5 ⟨rfl,hs5,hb5⟩;have R5:=Hd (R4.out.below hb5 R2.out.lt HB.out.size)))
      | (go_at_call 212;((with_reducible refine (wordsValue_calls _ _).mono ?_);rintro e w6 ⟨rfl,hb6⟩;obtain⟨a0,a1,a2,a3,z0,z1,z2,z3,lt⟩:=R5.out.below hb6 R5.out.lt (Nat.le_refl _))))
     refine leaves_cons (f:=90) (args:=#[.pointer (some ⟨w.heap.size,0,none⟩),.pointer (some ⟨w.heap.size+1,0,none⟩)]) zq30 (by simp[go_sem]) ?_;refine (catch_idle _ _ _).mono ?_;rintro e u' w7 ⟨rfl,rfl,rfl⟩;have hfin:Below w.heap.size w w6:=(hb.out.trans ((HB.out.trans hb5).mono hb.out.size)).trans (hb6.mono (Nat.le_trans hb.out.size (Nat.le_trans HB.out.size hb5.size)));simp[Leaves,settle,results,Tryz.results56,go_sem,a0,a1,a2,a3];exact⟨rfl,(((hfin.setCell (Nat.le_refl _) _).setCell (Nat.le_refl _) _).setCell (Nat.le_refl _) _).setCell zq30 _⟩
theorem form_len (k:Nat) (l0:List S68) (h:expr_Form.f k l0=some 0):l0.length<=64:=by
 unfold expr_Form.f at h
 split at h
 ·simp at h
 ·omega
def eval_Eval.f (k:Nat) (l0:List S68) (l1:List S65):Option (Int × Int × ByteArray × Int) :=
 (expr_Form.f k l0).bind fun f=>if f ≠ 0 then some (0,0,⟨#[]⟩,f) else
  (row_May.f l1).bind fun m=>if m=false then some (0,0,⟨#[]⟩,2) else
   (wordsS k l1 l0 []).bind endS
theorem eval_Eval.calls (k:Nat) (A0:Option Addr) (c0:Nat) (l0:List S68) (A1:Option Addr) (c1:Nat) (l1:List S65) (r1 r2:Int) (r3:ByteArray) (r4:Int) (w:World)
  (hr0:Kd.C k68 w A0 l0.length l0) (hc0:l0.length<=c0) (hr1:Kd.C k65 w A1 l1.length l1) (hc1:l1.length<=c1) (h:eval_Eval.f k l0 l1=some (r1,r2,r3,r4)) :
  Calls Tryz.prog 56 #[.slice A0 l0.length c0,.slice A1 l1.length c1] w fun e w'=>e = .returned (.tuple #[.agg #[.int .i64 r1,.int .i64 r2,.string r3],.int .i64 r4])/\Below w.heap.size w w':=by
 unfold eval_Eval.f at h;obtain⟨f,hf,h⟩:=Option.bind_eq_some_iff.1 h;have CF:=fun w' (hb:Below w.heap.size w w')=>expr_Form.calls k A0 c0 l0 f w' (Kd.C_below hr0 hb) hc0 hf
 split at h
 ·rename_i h1
  injection h with h
  injection h with h2 h
  injection h with h3 h
  injection h with h4 h5
  subst h2 h3 h4 h5;exact eval_form A0 c0 l0 _ f w (by simpa using h1) CF
 ·rename_i h1
  obtain rfl:f=0:=by omega
  obtain⟨m,hm,h⟩:=Option.bind_eq_some_iff.1 h;have CM:=fun w' (hb:Below w.heap.size w w')=>row_May.calls A1 c1 l1 m w' (Kd.C_below hr1 hb) hc1 hm
  split at h
  ·rename_i h2
   subst h2;injection h with h
   injection h with h2 h
   injection h with h3 h
   injection h with h4 h5
   subst h2 h3 h4 h5;exact eval_may A0 c0 l0 _ w CF CM
  ·rename_i h2
   obtain rfl:m=true:=by simpa using h2
   obtain⟨v,hv,h⟩:=Option.bind_eq_some_iff.1 h;exact eval_run k A0 c0 l0 A1 c1 l1 v (r1,r2,r3,r4) w hr0 hr1 hc1 (form_len k l0 hf) CF CM hv h
attribute [local go_sem] max2_int min2_int max_two min_two max_three min_three max_four min_four
attribute [local go_sem high] eqA65
def eval_Holds.f (k:Nat) (l0:List (S68)) (l1:List (S65)):Option (Bool × Int):=(eval_Eval.f k l0 l1).bind fun bt132=>(if bt132.2.2.2=0 then (if bt132.1=1 then (some ((bt132.2.1 != 0),0)) else (some (false,12))) else (some (false,bt132.2.2.2)))
theorem eval_Holds.calls (k:Nat) (A0:Option Addr) (c0:Nat) (l0:List (S68)) (A1:Option Addr) (c1:Nat) (l1:List (S65)) (r1:Bool) (r2:Int) (w:World) (hr0:Kd.C k68 w A0 l0.length l0) (hc0:l0.length<=c0) (hr1:Kd.C k65 w A1 l1.length l1) (hc1:l1.length<=c1) (h:eval_Holds.f k l0 l1=some (r1,r2)) :
  Calls Tryz.prog 24 #[.slice A0 l0.length c0,.slice A1 l1.length c1] w fun e w'=>e = .returned (.tuple #[.bool r1,.int .i64 r2])/\Below w.heap.size w w':=by
 have hu65:=Tryz.underlying65;have HR0:=Aside0.mk hr0;have HC0:=Aside0.mk hc0;clear hr0 hc0;have HR1:=Aside0.mk hr1;have HC1:=Aside0.mk hc1;clear hr1 hc1;have HB:=Aside0.mk (Below.refl w.heap.size w);have H:((eval_Eval.f k l0 l1).bind fun bt132=>(if bt132.2.2.2=0 then (if bt132.1=1 then (some ((bt132.2.1 != 0),0)) else (some (false,12))) else (some (false,bt132.2.2.2))))=some (r1,r2):=h;clear h;replace H:=Option.bind_eq_some_iff.mp H;obtain⟨⟨t132,t133,t134,t135⟩,A30,H⟩:=H;replace H:(if t135=0 then (if t132=1 then (some ((t133 != 0),0)) else (some (false,12))) else (some (false,t135)))=some (r1,r2):=H;have A3:=Aside0.mk A30;clear A30
 by_cases c4:t135=0
 ·rw[if_pos c4] at H
  have c4b0:(t135 == 0)=true:=beq_iff_eq.mpr c4;have c4b1:(t135 != 0)=false:=bne_eq_false_iff_eq.mpr c4;clear c4
  by_cases c5:t132=1
  ·rw[if_pos c5] at H
   have c5b0:(t132 == 1)=true:=beq_iff_eq.mpr c5;have c5b1:(t132 != 1)=false:=bne_eq_false_iff_eq.mpr c5;clear c5;simp only[Option.some.injEq,Prod.mk.injEq] at H;obtain⟨rfl,rfl⟩:=H;go_enter Tryz.func24,Tryz.ntmps24
   go_wp2_with (first | (refine gZ 11 Tryz.func56 #[.slice A0 l0.length c0,.slice A1 l1.length c1] ?_;(with_reducible refine (eval_Eval.calls k _ _ l0 _ _ l1 t132 t133 t134 t135 _ ?side1 ?side2 ?side3 ?side4 A3.out).mono ?_);(case side1=>exact cQ HR0.out);(case side2=>exact HC0.out);(case side3=>exact cQ HR1.out);(case side4=>exact HC1.out);rintro e w6 ⟨rfl,hb⟩;refine⟨_,rfl,?_⟩;replace HB:=BB HB hb;(try clear hb)) | (refine bZ 6 #[.int .i64 0,.int .i64 0,.string (⟨#[]⟩:ByteArray)] 65 ?_;intro gb136 hg w7 hbox hb;have BK136:=Aside0.mk (hbox);have GW136:=GB HB hg;have GE136:=GW136;replace HB:=BB HB hb;clear hb hbox hg;obtain⟨hcz8_0,hcz8_1,hcz8_2,hfz8_0,hfz8_1,hfz8_2⟩:=bL3 BK136))
   go_ret2;exact⟨zq2,zq66⟩
  ·rw[if_neg c5] at H
   have c5b0:(t132 == 1)=false:=BNM c5;have c5b1:(t132 != 1)=true:=bne_iff_ne.mpr c5;simp only[Option.some.injEq,Prod.mk.injEq] at H;obtain⟨rfl,rfl⟩:=H;go_enter Tryz.func24,Tryz.ntmps24
   go_wp2_with (first | (refine gZ 11 Tryz.func56 #[.slice A0 l0.length c0,.slice A1 l1.length c1] ?_;(with_reducible refine (eval_Eval.calls k _ _ l0 _ _ l1 t132 t133 t134 t135 _ ?side1 ?side2 ?side3 ?side4 A3.out).mono ?_);(case side1=>exact cQ HR0.out);(case side2=>exact HC0.out);(case side3=>exact cQ HR1.out);(case side4=>exact HC1.out);rintro e w9 ⟨rfl,hb⟩;refine⟨_,rfl,?_⟩;replace HB:=BB HB hb;(try clear hb)) | (refine bZ 6 #[.int .i64 0,.int .i64 0,.string (⟨#[]⟩:ByteArray)] 65 ?_;intro gb136 hg w10 hbox hb;have BK136:=Aside0.mk (hbox);have GW136:=GB HB hg;have GE136:=GW136;replace HB:=BB HB hb;clear hb hbox hg;obtain⟨hcz11_0,hcz11_1,hcz11_2,hfz11_0,hfz11_1,hfz11_2⟩:=bL3 BK136))
   go_ret2;exact⟨zq2,zq66⟩
 ·rw[if_neg c4] at H
  have c4b0:(t135 == 0)=false:=BNM c4;have c4b1:(t135 != 0)=true:=bne_iff_ne.mpr c4;simp only[Option.some.injEq,Prod.mk.injEq] at H;obtain⟨rfl,rfl⟩:=H;go_enter Tryz.func24,Tryz.ntmps24
  go_wp2_with (first | (refine gZ 11 Tryz.func56 #[.slice A0 l0.length c0,.slice A1 l1.length c1] ?_;(with_reducible refine (eval_Eval.calls k _ _ l0 _ _ l1 t132 t133 t134 t135 _ ?side1 ?side2 ?side3 ?side4 A3.out).mono ?_);(case side1=>exact cQ HR0.out);(case side2=>exact HC0.out);(case side3=>exact cQ HR1.out);(case side4=>exact HC1.out);rintro e w12 ⟨rfl,hb⟩;refine⟨_,rfl,?_⟩;replace HB:=BB HB hb;(try clear hb)) | (refine bZ 6 #[.int .i64 0,.int .i64 0,.string (⟨#[]⟩:ByteArray)] 65 ?_;intro gb136 hg w13 hbox hb;have BK136:=Aside0.mk (hbox);have GW136:=GB HB hg;have GE136:=GW136;replace HB:=BB HB hb;clear hb hbox hg;obtain⟨hcz14_0,hcz14_1,hcz14_2,hfz14_0,hfz14_1,hfz14_2⟩:=bL3 BK136))
  go_ret2;exact⟨zq2,zq66⟩
def cmp_isNaN_int.f (a0:Int):Option (Bool):=some (a0 != a0)
theorem cmp_isNaN_int.calls (a0:Int) (r:Bool) (w:World) (h:cmp_isNaN_int.f a0=some r) :
  Calls Tryz.prog 148 #[.int .i64 a0] w fun e w'=>e = .returned (.bool r)/\Drawn0 w w':=by
 have H:(some (a0 != a0))=some r:=h;clear h;obtain rfl:=OSI H;go_enter Tryz.func148,Tryz.ntmps148;go_wp2;go_ret;exact⟨zq3,zq5⟩
def cmp_Compare_int.f (a0:Int) (a1:Int):Option (Int):=(cmp_isNaN_int.f a0).bind fun t137=>((cmp_isNaN_int.f a1).bind fun t138=>(if t137=true then (if t138=true then (some 0) else (some (-1))) else (if t138=true then (some 1) else (if a0<a1 then (some (-1)) else (if a0 > a1 then (some 1) else (some 0))))))
theorem cmp_Compare_int.calls (a0:Int) (a1:Int) (r:Int) (w:World) (h:cmp_Compare_int.f a0 a1=some r) :
  Calls Tryz.prog 106 #[.int .i64 a0,.int .i64 a1] w fun e w'=>e = .returned (.int .i64 r)/\Drawn0 w w':=by
 have H:((cmp_isNaN_int.f a0).bind fun t137=>((cmp_isNaN_int.f a1).bind fun t138=>(if t137=true then (if t138=true then (some 0) else (some (-1))) else (if t138=true then (some 1) else (if a0<a1 then (some (-1)) else (if a0 > a1 then (some 1) else (some 0)))))))=some r:=h;clear h;replace H:=Option.bind_eq_some_iff.mp H;obtain⟨t137,A30,H⟩:=H;replace H:((cmp_isNaN_int.f a1).bind fun t138=>(if t137=true then (if t138=true then (some 0) else (some (-1))) else (if t138=true then (some 1) else (if a0<a1 then (some (-1)) else (if a0 > a1 then (some 1) else (some 0))))))=some r:=H;have A3:=Aside0.mk A30;clear A30;replace H:=Option.bind_eq_some_iff.mp H;obtain⟨t138,A40,H⟩:=H;replace H:(if t137=true then (if t138=true then (some 0) else (some (-1))) else (if t138=true then (some 1) else (if a0<a1 then (some (-1)) else (if a0 > a1 then (some 1) else (some 0)))))=some r:=H;have A4:=Aside0.mk A40;clear A40
 by_cases c5:t137=true
 ·subst c5
  have H1:(if t138=true then (some 0) else (some (-1)))=some r:=by rw[if_pos rfl] at H;exact H
  clear H;have H:=H1;clear H1
  by_cases c6:t138=true
  ·subst c6
   have H1:(some 0)=some r:=by rw[if_pos rfl] at H;exact H
   clear H;have H:=H1;clear H1;obtain rfl:=OSI H;go_enter Tryz.func106,Tryz.ntmps106
   go_wp2_with (first | (refine gZ 8 Tryz.func148 #[.int .i64 a0] ?_;(with_reducible refine (cmp_isNaN_int.calls a0 true _ A3.out).mono ?_);rintro e w' ⟨rfl,⟨nd,rfl⟩⟩;refine⟨_,rfl,?_⟩) | (refine gZ 10 Tryz.func148 #[.int .i64 a1] ?_;(with_reducible refine (cmp_isNaN_int.calls a1 true _ A4.out).mono ?_);rintro e w' ⟨rfl,⟨nd,rfl⟩⟩;refine⟨_,rfl,?_⟩))
   go_ret;exact⟨zq3,zq5⟩
  ·replace c6:=Bool.eq_false_iff.mpr c6
   subst c6;have H1:(some (-1))=some r:=by rw[if_neg (show ¬ (false=true) by decide)] at H;exact H
   clear H;have H:=H1;clear H1;obtain rfl:=OSI H;go_enter Tryz.func106,Tryz.ntmps106
   go_wp2_with (first | (refine gZ 8 Tryz.func148 #[.int .i64 a0] ?_;(with_reducible refine (cmp_isNaN_int.calls a0 true _ A3.out).mono ?_);rintro e w' ⟨rfl,⟨nd,rfl⟩⟩;refine⟨_,rfl,?_⟩) | (refine gZ 10 Tryz.func148 #[.int .i64 a1] ?_;(with_reducible refine (cmp_isNaN_int.calls a1 false _ A4.out).mono ?_);rintro e w' ⟨rfl,⟨nd,rfl⟩⟩;refine⟨_,rfl,?_⟩))
   go_ret;exact⟨zq3,zq5⟩
 ·replace c5:=Bool.eq_false_iff.mpr c5
  subst c5;have H1:(if t138=true then (some 1) else (if a0<a1 then (some (-1)) else (if a0 > a1 then (some 1) else (some 0))))=some r:=by rw[if_neg (show ¬ (false=true) by decide)] at H;exact H
  clear H;have H:=H1;clear H1
  by_cases c7:t138=true
  ·subst c7
   have H1:(some 1)=some r:=by rw[if_pos rfl] at H;exact H
   clear H;have H:=H1;clear H1;obtain rfl:=OSI H;go_enter Tryz.func106,Tryz.ntmps106
   go_wp2_with (first | (refine gZ 8 Tryz.func148 #[.int .i64 a0] ?_;(with_reducible refine (cmp_isNaN_int.calls a0 false _ A3.out).mono ?_);rintro e w' ⟨rfl,⟨nd,rfl⟩⟩;refine⟨_,rfl,?_⟩) | (refine gZ 10 Tryz.func148 #[.int .i64 a1] ?_;(with_reducible refine (cmp_isNaN_int.calls a1 true _ A4.out).mono ?_);rintro e w' ⟨rfl,⟨nd,rfl⟩⟩;refine⟨_,rfl,?_⟩))
   go_ret;exact⟨zq3,zq5⟩
  ·replace c7:=Bool.eq_false_iff.mpr c7
   subst c7;have H1:(if a0<a1 then (some (-1)) else (if a0 > a1 then (some 1) else (some 0)))=some r:=by rw[if_neg (show ¬ (false=true) by decide)] at H;exact H
   clear H;have H:=H1;clear H1
   by_cases c8:a0<a1
   ·rw[if_pos c8] at H
    have c8b0:decide (a0<a1)=true:=DET c8;clear c8;obtain rfl:=OSI H;go_enter Tryz.func106,Tryz.ntmps106
    go_wp2_with (first | (refine gZ 8 Tryz.func148 #[.int .i64 a0] ?_;(with_reducible refine (cmp_isNaN_int.calls a0 false _ A3.out).mono ?_);rintro e w' ⟨rfl,⟨nd,rfl⟩⟩;refine⟨_,rfl,?_⟩) | (refine gZ 10 Tryz.func148 #[.int .i64 a1] ?_;(with_reducible refine (cmp_isNaN_int.calls a1 false _ A4.out).mono ?_);rintro e w' ⟨rfl,⟨nd,rfl⟩⟩;refine⟨_,rfl,?_⟩))
    go_ret;exact⟨zq3,zq5⟩
   ·rw[if_neg c8] at H
    have c8b0:decide (a0<a1)=false:=DEF c8;clear c8
    by_cases c9:a0 > a1
    ·rw[if_pos c9] at H
     have c9b0:decide (a1<a0)=true:=DET c9;clear c9;obtain rfl:=OSI H;go_enter Tryz.func106,Tryz.ntmps106
     go_wp2_with (first | (refine gZ 8 Tryz.func148 #[.int .i64 a0] ?_;(with_reducible refine (cmp_isNaN_int.calls a0 false _ A3.out).mono ?_);rintro e w' ⟨rfl,⟨nd,rfl⟩⟩;refine⟨_,rfl,?_⟩) | (refine gZ 10 Tryz.func148 #[.int .i64 a1] ?_;(with_reducible refine (cmp_isNaN_int.calls a1 false _ A4.out).mono ?_);rintro e w' ⟨rfl,⟨nd,rfl⟩⟩;refine⟨_,rfl,?_⟩))
     go_ret;exact⟨zq3,zq5⟩
    ·rw[if_neg c9] at H
     have c9b0:decide (a1<a0)=false:=DEF c9;clear c9;obtain rfl:=OSI H;go_enter Tryz.func106,Tryz.ntmps106
     go_wp2_with (first | (refine gZ 8 Tryz.func148 #[.int .i64 a0] ?_;(with_reducible refine (cmp_isNaN_int.calls a0 false _ A3.out).mono ?_);rintro e w' ⟨rfl,⟨nd,rfl⟩⟩;refine⟨_,rfl,?_⟩) | (refine gZ 10 Tryz.func148 #[.int .i64 a1] ?_;(with_reducible refine (cmp_isNaN_int.calls a1 false _ A4.out).mono ?_);rintro e w' ⟨rfl,⟨nd,rfl⟩⟩;refine⟨_,rfl,?_⟩))
     go_ret;exact⟨zq3,zq5⟩
def step_fair.f (a0:Int):Option (Bool):=if a0<=1048576 then (some (decide (a0 >= (-1048576)))) else (some false)
theorem step_fair.calls (a0:Int) (r:Bool) (w:World) (h:step_fair.f a0=some r) :
  Calls Tryz.prog 95 #[.int .i64 a0] w fun e w'=>e = .returned (.bool r)/\Drawn0 w w':=by
 have H:(if a0<=1048576 then (some (decide (a0 >= (-1048576)))) else (some false))=some r:=h;clear h
 by_cases c2:a0<=1048576
 ·rw[if_pos c2] at H
  have c2b0:decide (a0<=1048576)=true:=DET c2;clear c2;obtain rfl:=OSI H;go_enter Tryz.func95,Tryz.ntmps95;go_wp2;go_ret;exact⟨zq3,zq5⟩
 ·rw[if_neg c2] at H
  have c2b0:decide (a0<=1048576)=false:=DEF c2;clear c2;obtain rfl:=OSI H;go_enter Tryz.func95,Tryz.ntmps95;go_wp2;go_ret;exact⟨zq3,zq5⟩
def step_May.l0:Nat->Int->List (S85)->Int->Int->Option (Bool)
 | 0,_,_,_,_=>none
 | k+1,x3,x9,x10,x11=>if x11<x10 then (if 0<=x11 then (if x11<(x9.length:Int) then (if ((rd_T85 x9 x11).f0)<=x3 then (some false) else (if ((rd_T85 x9 x11).f0) >= 1125899906842624 then (some false) else (if ((rd_T85 x9 x11).f1)=0 then (some false) else ((step_fair.f ((rd_T85 x9 x11).f1)).bind fun t141=>(if t141=true then (step_May.l0 k ((rd_T85 x9 x11).f0) x9 x10 (wrap64 (x11+1))) else (some false)))))) else (none)) else (none)) else (some true)
def step_May.f (k:Nat) (l0:List (S85)):Option (Bool):=if (l0.length:Int) > 1024 then (some false) else (step_May.l0 k (-2) l0 (l0.length:Int) 0)
theorem step_May.calls (k:Nat) (A0:Option Addr) (c0:Nat) (l0:List (S85)) (r:Bool) (w:World) (hr0:Kd.C k85 w A0 l0.length l0) (hc0:l0.length<=c0) (h:step_May.f k l0=some r) :
  Calls Tryz.prog 61 #[.slice A0 l0.length c0] w fun e w'=>e = .returned (.bool r)/\Below w.heap.size w w':=by
 have hu85:=Tryz.underlying85;have HR0:=Aside0.mk hr0;have HC0:=Aside0.mk hc0;clear hr0 hc0;have HB:=Aside0.mk (Below.refl w.heap.size w);have H:(if (l0.length:Int) > 1024 then (some false) else (step_May.l0 k (-2) l0 (l0.length:Int) 0))=some r:=h;clear h
 by_cases c2:(l0.length:Int) > 1024
 ·rw[if_pos c2] at H
  have c2b0:decide (1024<(l0.length:Int))=true:=DET c2;have c2b1:decide (1024<l0.length)=true:=DET zq4;clear c2;obtain rfl:=OSI H;go_enter Tryz.func61,Tryz.ntmps61;go_wp2;go_ret;exact⟨zq2,zq0⟩
 ·rw[if_neg c2] at H
  have c2b0:decide (1024<(l0.length:Int))=false:=DEF c2;have c2b1:decide (1024<l0.length)=false:=DEF zq4;clear c2;have H':=Aside0.mk H;clear H;go_enter Tryz.func61,Tryz.ntmps61;go_wp2
  go_loopg [3,11] k (fun kq v3 v11 w'=>∃ (x3_1:Int) (x11_1:Int),v3 = .int .i64 x3_1/\v11 = .int .i64 x11_1/\Aside0 (step_May.l0 kq x3_1 l0 (l0.length:Int) x11_1=some r)/\Aside0 (kq<=k)/\Aside0 (Below w.heap.size w w'))
  case atStart=>exact⟨((-2)),(0),zq3,zq3,H',⟨Nat.le_refl _⟩,⟨zq0⟩⟩
  case round =>
   clear H'
   try clear c2
   try clear c2b0
   try clear c2b1
   try clear p2
   obtain⟨x3_1,x11_1,rfl,rfl,HA,HK1,HB⟩:=hrel;cases gk with
   | zero=>exact absurd HA.out (by simp[step_May.l0])
   | succ k1 =>
    have H:=HA.out;clear HA;simp only[step_May.l0] at H
    by_cases c3:x11_1<(l0.length:Int)
    ·rw[if_pos c3] at H
     have c3b0:decide (x11_1<(l0.length:Int))=true:=DET c3;clear c3
     by_cases c4:0<=x11_1
     ·rw[if_pos c4] at H
      have c4b0:decide (0<=x11_1)=true:=DET c4;clear c4
      by_cases c5:x11_1<(l0.length:Int)
      ·rw[if_pos c5] at H
       have c5b0:decide (x11_1<(l0.length:Int))=true:=DET c5;clear c5
       by_cases c6:((rd_T85 l0 x11_1).f0)<=x3_1
       ·rw[if_pos c6] at H
        have c6b0:decide (((rd_T85 l0 x11_1).f0)<=x3_1)=true:=DET c6;clear c6;obtain rfl:=OSI H;have p139:0<=(x11_1:Int):=ODT zq1;have q139:x11_1<(l0.length:Int):=ODT zq1;obtain⟨ad139,e139,hx139_0,hx139_1⟩:=at_T85 HR0.out x11_1 p139 q139;cases e139;replace hx139_0:=hZ hx139_0 HB.out;replace hx139_1:=hZ hx139_1 HB.out;replace p139:=eq_true p139;replace q139:=eq_true q139
        go_wp2_with (first | (refine bZ 5 #[.int .i64 0,.int .i64 0] 85 ?_;intro gb140 hg w7 hbox hb;have BK140:=Aside0.mk (hbox);have GW140:=GB HB hg;have GE140:=GW140;replace HB:=BB HB hb;clear hb hbox hg;obtain⟨hcz8_0,hcz8_1,hfz8_0,hfz8_1⟩:=bL2 BK140))
        go_ret;exact⟨zq2,zq39⟩
       ·rw[if_neg c6] at H
        have c6b0:decide (((rd_T85 l0 x11_1).f0)<=x3_1)=false:=DEF c6;clear c6
        by_cases c9:((rd_T85 l0 x11_1).f0) >= 1125899906842624
        ·rw[if_pos c9] at H
         have c9b0:decide (1125899906842624<=((rd_T85 l0 x11_1).f0))=true:=DET c9;clear c9;obtain rfl:=OSI H;have p139:0<=(x11_1:Int):=ODT zq1;have q139:x11_1<(l0.length:Int):=ODT zq1;obtain⟨ad139,e139,hx139_0,hx139_1⟩:=at_T85 HR0.out x11_1 p139 q139;cases e139;replace hx139_0:=hZ hx139_0 HB.out;replace hx139_1:=hZ hx139_1 HB.out;replace p139:=eq_true p139;replace q139:=eq_true q139
         go_wp2_with (first | (refine bZ 5 #[.int .i64 0,.int .i64 0] 85 ?_;intro gb140 hg w10 hbox hb;have BK140:=Aside0.mk (hbox);have GW140:=GB HB hg;have GE140:=GW140;replace HB:=BB HB hb;clear hb hbox hg;obtain⟨hcz11_0,hcz11_1,hfz11_0,hfz11_1⟩:=bL2 BK140))
         go_ret;exact⟨zq2,zq39⟩
        ·rw[if_neg c9] at H
         have c9b0:decide (1125899906842624<=((rd_T85 l0 x11_1).f0))=false:=DEF c9;clear c9
         by_cases c12:((rd_T85 l0 x11_1).f1)=0
         ·rw[if_pos c12] at H
          have c12b0:(((rd_T85 l0 x11_1).f1) == 0)=true:=beq_iff_eq.mpr c12;have c12b1:(((rd_T85 l0 x11_1).f1) != 0)=false:=bne_eq_false_iff_eq.mpr c12;clear c12;obtain rfl:=OSI H;have p139:0<=(x11_1:Int):=ODT zq1;have q139:x11_1<(l0.length:Int):=ODT zq1;obtain⟨ad139,e139,hx139_0,hx139_1⟩:=at_T85 HR0.out x11_1 p139 q139;cases e139;replace hx139_0:=hZ hx139_0 HB.out;replace hx139_1:=hZ hx139_1 HB.out;replace p139:=eq_true p139;replace q139:=eq_true q139
          go_wp2_with (first | (refine bZ 5 #[.int .i64 0,.int .i64 0] 85 ?_;intro gb140 hg w13 hbox hb;have BK140:=Aside0.mk (hbox);have GW140:=GB HB hg;have GE140:=GW140;replace HB:=BB HB hb;clear hb hbox hg;obtain⟨hcz14_0,hcz14_1,hfz14_0,hfz14_1⟩:=bL2 BK140))
          go_ret;exact⟨zq2,zq39⟩
         ·rw[if_neg c12] at H
          have c12b0:(((rd_T85 l0 x11_1).f1) == 0)=false:=BNM c12;have c12b1:(((rd_T85 l0 x11_1).f1) != 0)=true:=bne_iff_ne.mpr c12;replace H:=Option.bind_eq_some_iff.mp H;obtain⟨t141,A150,H⟩:=H;replace H:(if t141=true then (step_May.l0 k1 ((rd_T85 l0 x11_1).f0) l0 (l0.length:Int) (wrap64 (x11_1+1))) else (some false))=some r:=H;have A15:=Aside0.mk A150;clear A150
          by_cases c16:t141=true
          ·subst c16
           have H1:(step_May.l0 k1 ((rd_T85 l0 x11_1).f0) l0 (l0.length:Int) (wrap64 (x11_1+1)))=some r:=by rw[if_pos rfl] at H;exact H
           clear H;have H:=H1;clear H1;have H':=Aside0.mk H;clear H;have p139:0<=(x11_1:Int):=ODT zq1;have q139:x11_1<(l0.length:Int):=ODT zq1;obtain⟨ad139,e139,hx139_0,hx139_1⟩:=at_T85 HR0.out x11_1 p139 q139;cases e139;replace hx139_0:=hZ hx139_0 HB.out;replace hx139_1:=hZ hx139_1 HB.out;replace p139:=eq_true p139;replace q139:=eq_true q139
           go_wp2_with (first | (refine bZ 5 #[.int .i64 0,.int .i64 0] 85 ?_;intro gb140 hg w17 hbox hb;have BK140:=Aside0.mk (hbox);have GW140:=GB HB hg;have GE140:=GW140;replace HB:=BB HB hb;clear hb hbox hg;obtain⟨hcz18_0,hcz18_1,hfz18_0,hfz18_1⟩:=bL2 BK140) | (go_at_call 95;(with_reducible refine (step_fair.calls ((rd_T85 l0 x11_1).f1) true _ A15.out).mono ?_);rintro e w' ⟨rfl,⟨nd,rfl⟩⟩))
           go_roundg k1
           case measure=>have:=HK1.out;omega
           case rel=>exact⟨((rd_T85 l0 x11_1).f0),(wrap64 (x11_1+1)),zq3,zq3,H',⟨by have:=HK1.out;omega⟩,⟨zq39⟩⟩
          ·replace c16:=Bool.eq_false_iff.mpr c16
           subst c16;have H1:(some false)=some r:=by rw[if_neg (show ¬ (false=true) by decide)] at H;exact H
           clear H;have H:=H1;clear H1;obtain rfl:=OSI H;have p139:0<=(x11_1:Int):=ODT zq1;have q139:x11_1<(l0.length:Int):=ODT zq1;obtain⟨ad139,e139,hx139_0,hx139_1⟩:=at_T85 HR0.out x11_1 p139 q139;cases e139;replace hx139_0:=hZ hx139_0 HB.out;replace hx139_1:=hZ hx139_1 HB.out;replace p139:=eq_true p139;replace q139:=eq_true q139
           go_wp2_with (first | (refine bZ 5 #[.int .i64 0,.int .i64 0] 85 ?_;intro gb140 hg w19 hbox hb;have BK140:=Aside0.mk (hbox);have GW140:=GB HB hg;have GE140:=GW140;replace HB:=BB HB hb;clear hb hbox hg;obtain⟨hcz20_0,hcz20_1,hfz20_0,hfz20_1⟩:=bL2 BK140) | (go_at_call 95;(with_reducible refine (step_fair.calls ((rd_T85 l0 x11_1).f1) false _ A15.out).mono ?_);rintro e w' ⟨rfl,⟨nd,rfl⟩⟩))
           go_ret;exact⟨zq2,zq39⟩
      ·rw[if_neg c5] at H
       exact absurd H zq30
     ·rw[if_neg c4] at H
      exact absurd H zq30
    ·rw[if_neg c3] at H
     have c3b0:decide (x11_1<(l0.length:Int))=false:=DEF c3;clear c3;obtain rfl:=OSI H;go_wp2;go_ret;exact⟨zq2,zq0⟩
def r06_Same.l0:Nat->List (S65)->List (S65)->Int->Option (Bool)
 | 0,_,_,_=>none
 | k+1,x0,x1,x5=>if x5<(x0.length:Int) then (if 0<=x5 then (if x5<(x1.length:Int) then (if (!(((rd_T65 x0 x5).f0) == ((rd_T65 x1 x5).f0)) || (!(((rd_T65 x0 x5).f1) == ((rd_T65 x1 x5).f1)) || (!((((rd_T65 x0 x5).f2).toList) == (((rd_T65 x1 x5).f2).toList)))))=true then (some false) else (r06_Same.l0 k x0 x1 (wrap64 (x5+1)))) else (none)) else (none)) else (some true)
def r06_Same.f (k:Nat) (l0:List (S65)) (l1:List (S65)):Option (Bool):=if (l0.length:Int)=(l1.length:Int) then (r06_Same.l0 k l0 l1 0) else (some false)
theorem r06_Same.calls (k:Nat) (A0:Option Addr) (c0:Nat) (l0:List (S65)) (A1:Option Addr) (c1:Nat) (l1:List (S65)) (r:Bool) (w:World) (hr0:Kd.C k65 w A0 l0.length l0) (hc0:l0.length<=c0) (hr1:Kd.C k65 w A1 l1.length l1) (hc1:l1.length<=c1) (h:r06_Same.f k l0 l1=some r) :
  Calls Tryz.prog 53 #[.slice A0 l0.length c0,.slice A1 l1.length c1] w fun e w'=>e = .returned (.bool r)/\Drawn0 w w':=by
 have hu65:=Tryz.underlying65;have HR0:=Aside0.mk hr0;have HC0:=Aside0.mk hc0;clear hr0 hc0;have HR1:=Aside0.mk hr1;have HC1:=Aside0.mk hc1;clear hr1 hc1;have H:(if (l0.length:Int)=(l1.length:Int) then (r06_Same.l0 k l0 l1 0) else (some false))=some r:=h;clear h
 by_cases c3:(l0.length:Int)=(l1.length:Int)
 ·rw[if_pos c3] at H
  have c3b0:((l0.length:Int) == (l1.length:Int))=true:=beq_iff_eq.mpr c3;have c3b1:((l0.length:Int) != (l1.length:Int))=false:=bne_eq_false_iff_eq.mpr c3;have c3b2:(l0.length == l1.length)=true:=by first | simpa using c3 | (simp at c3 ⊢;omega)
  clear c3;have H':=Aside0.mk H;clear H;go_enter Tryz.func53,Tryz.ntmps53;go_wp2
  repeat (go_quiet (fail);try go_wp2)
  go_loopg [5] k (fun kq v5 w'=>∃ (x5_1:Int),v5 = .int .i64 x5_1/\Aside0 (r06_Same.l0 kq l0 l1 x5_1=some r)/\Aside0 (kq<=k)/\Drawn0 w w')
  case atStart=>exact⟨(0),zq3,H',⟨Nat.le_refl _⟩,zq5⟩
  case round =>
   clear H'
   try clear c1
   try clear p2
   try clear c3
   try clear c3b0
   try clear c3b1
   try clear c3b2
   obtain⟨x5_1,rfl,HA,HK1,⟨m1,rfl⟩⟩:=hrel;cases gk with
   | zero=>exact absurd HA.out (by simp[r06_Same.l0])
   | succ k1 =>
    have H:=HA.out;clear HA;simp only[r06_Same.l0] at H
    by_cases c4:x5_1<(l0.length:Int)
    ·rw[if_pos c4] at H
     have c4b0:decide (x5_1<(l0.length:Int))=true:=DET c4;clear c4
     by_cases c5:0<=x5_1
     ·rw[if_pos c5] at H
      have c5b0:decide (0<=x5_1)=true:=DET c5;clear c5
      by_cases c6:x5_1<(l1.length:Int)
      ·rw[if_pos c6] at H
       have c6b0:decide (x5_1<(l1.length:Int))=true:=DET c6;clear c6
       by_cases c7:(!(((rd_T65 l0 x5_1).f0) == ((rd_T65 l1 x5_1).f0)) || (!(((rd_T65 l0 x5_1).f1) == ((rd_T65 l1 x5_1).f1)) || (!((((rd_T65 l0 x5_1).f2).toList) == (((rd_T65 l1 x5_1).f2).toList)))))=true
       ·rw[if_pos c7] at H
        have c7b0:(!(((rd_T65 l0 x5_1).f0) == ((rd_T65 l1 x5_1).f0)) || (!(((rd_T65 l0 x5_1).f1) == ((rd_T65 l1 x5_1).f1)) || (!((((rd_T65 l0 x5_1).f2).toList) == (((rd_T65 l1 x5_1).f2).toList)))))=true:=c7;clear c7;obtain rfl:=OSI H;have p144:0<=(x5_1:Int):=ODT zq1;have q144:x5_1<(l0.length:Int):=ODT zq1;obtain⟨ad144,e144,hx144_0,hx144_1,hx144_2⟩:=at_T65 HR0.out x5_1 p144 q144;cases e144;replace p144:=eq_true p144;replace q144:=eq_true q144;have p145:0<=(x5_1:Int):=ODT zq1;have q145:x5_1<(l1.length:Int):=ODT zq1;obtain⟨ad145,e145,hx145_0,hx145_1,hx145_2⟩:=at_T65 HR1.out x5_1 p145 q145;cases e145;replace p145:=eq_true p145;replace q145:=eq_true q145;go_wp2
        repeat (go_quiet (fail);try go_wp2)
        go_ret;exact⟨zq3,zq5⟩
       ·rw[if_neg c7] at H
        have c7b0:(!(((rd_T65 l0 x5_1).f0) == ((rd_T65 l1 x5_1).f0)) || (!(((rd_T65 l0 x5_1).f1) == ((rd_T65 l1 x5_1).f1)) || (!((((rd_T65 l0 x5_1).f2).toList) == (((rd_T65 l1 x5_1).f2).toList)))))=false:=by simpa using c7
        clear c7;have H':=Aside0.mk H;clear H;have p144:0<=(x5_1:Int):=ODT zq1;have q144:x5_1<(l0.length:Int):=ODT zq1;obtain⟨ad144,e144,hx144_0,hx144_1,hx144_2⟩:=at_T65 HR0.out x5_1 p144 q144;cases e144;replace p144:=eq_true p144;replace q144:=eq_true q144;have p145:0<=(x5_1:Int):=ODT zq1;have q145:x5_1<(l1.length:Int):=ODT zq1;obtain⟨ad145,e145,hx145_0,hx145_1,hx145_2⟩:=at_T65 HR1.out x5_1 p145 q145;cases e145;replace p145:=eq_true p145;replace q145:=eq_true q145;go_wp2
        repeat (go_quiet (fail);try go_wp2)
        go_roundg k1
        case measure=>have:=HK1.out;omega
        case rel=>exact⟨(wrap64 (x5_1+1)),zq3,H',⟨by have:=HK1.out;omega⟩,zq5⟩
      ·rw[if_neg c6] at H
       exact absurd H zq30
     ·rw[if_neg c5] at H
      exact absurd H zq30
    ·rw[if_neg c4] at H
     have c4b0:decide (x5_1<(l0.length:Int))=false:=DEF c4;clear c4;obtain rfl:=OSI H;go_wp2
     repeat (go_quiet (fail);try go_wp2)
     go_ret;exact⟨zq3,zq5⟩
 ·rw[if_neg c3] at H
  have c3b0:((l0.length:Int) == (l1.length:Int))=false:=BNM c3;have c3b1:((l0.length:Int) != (l1.length:Int))=true:=bne_iff_ne.mpr c3;have c3b2:(l0.length == l1.length)=false:=by first | simpa using c3 | (simp at c3 ⊢;omega)
  obtain rfl:=OSI H;go_enter Tryz.func53,Tryz.ntmps53;go_wp2
  repeat (go_quiet (fail);try go_wp2)
  go_ret;exact⟨zq3,zq5⟩
attribute [local go_sem] max2_int min2_int max_two min_two max_three min_three max_four min_four
end Go.Proofs.YtmkgecapkeojaaaGreat.PDa
end
