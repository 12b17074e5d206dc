/- Texts of this claim, put together by a program: Pl10, PlD, Told2, PlR, Concat, SumsP, HSame, Live, LawF, RefPut, HRows, RefNorm, HMay, HOne, HParts, HOf, HEval, HMade, RefProj, LawP, Any. -/
import Derived.Test.YtmkgecapkeojaaaGreatK11
import Derived.Deep.DeepCutAuto
set_option linter.unusedVariables false
set_option linter.unusedSimpArgs false
set_option maxHeartbeats 8000000
set_option maxRecDepth 100000
section
namespace Go.Proofs.YtmkgecapkeojaaaGreat.Eg
open Go.Proofs.YtmkgecapkeojaaaGreat Go.Proofs.YtmkgecapkeojaaaGreat.PDa
open Go.RowKit Go.Proofs.YtmkgecapkeojaaaGreatW.PrintWords Go.Proofs.YtmkgecapkeojaaaGreatW.PrintLast Go.Proofs.YtmkgecapkeojaaaGreatW.PrintMore
open Go.Proofs.YtmkgecapkeojaaaGreat.Stp Go.Proofs.YtmkgecapkeojaaaGreat.Rw Go.Proofs.YtmkgecapkeojaaaGreat.Canon
open Go.Proofs.YtmkgecapkeojaaaGreat.EvP (U)
theorem may_len {r : List Vl} (h : rowMay r = true) : r.length ≤ 8 := by
 unfold rowMay at h; rw [Bool.and_eq_true] at h; exact of_decide_eq_true h.1
theorem rowIns_len (r : List Vl) : ∀ l : List (List Vl), (rowIns r l).length ≤ l.length + 1
 | [] => by simp [rowIns]
 | x :: xs => by
  unfold rowIns; have := rowIns_len r xs
  split
  ·simp; omega
  ·split <;> simp
theorem rowIns_take (r : List Vl) : ∀ (j : Nat) (rows : List (List Vl)), (∀ x ∈ rows.take j, rC x r < 0) → rowIns r rows = rows.take j ++ rowIns r (rows.drop j)
 | 0, rows, _ => by simp
 | j + 1, [], _ => by simp
 | j + 1, x :: xs, h => by
  rw [rowIns, if_pos (h x zq30), rowIns_take r j xs (fun y hy => h y (by simp [hy]))]; simp
theorem fold_rows : ∀ (l : List EdP) (acc : List (List Vl)), Inc acc → Inc (l.foldl (fun a e => rowIns e.f0 a) acc) ∧ ∀ z, z ∈ l.foldl (fun a e => rowIns e.f0 a) acc ↔ z ∈ acc ∨ ∃ e ∈ l, e.f0 = z
 | [], acc, h => ⟨h, by simp⟩
 | e :: es, acc, h => by
  obtain ⟨h1, h2⟩ := fold_rows es (rowIns e.f0 acc) (rowIns_inc _ _ h); refine ⟨h1, fun z => ?_⟩; rw [List.foldl_cons, h2, rowIns_mem]
  constructor
  ·rintro ((h | h) | ⟨x, hx, h⟩)
   ·exact .inr ⟨e, List.mem_cons_self, h.symm⟩
   ·exact .inl h
   ·exact .inr ⟨x, List.mem_cons_of_mem _ hx, h⟩
  ·rintro (h | ⟨x, hx, h⟩)
   ·exact .inl (.inr h)
   ·rcases List.mem_cons.1 hx with rfl | hx
    ·exact .inl (.inl h.symm)
    ·exact .inr ⟨x, hx, h⟩
end Go.Proofs.YtmkgecapkeojaaaGreat.Eg
end
section
namespace Go.Proofs.YtmkgecapkeojaaaGreat.Eg
open Go.Proofs.YtmkgecapkeojaaaGreat Go.Proofs.YtmkgecapkeojaaaGreat.PDa
open Go.RowKit Go.Proofs.YtmkgecapkeojaaaGreatW.PrintWords Go.Proofs.YtmkgecapkeojaaaGreat.Stp Go.Proofs.YtmkgecapkeojaaaGreat.Rw Go.Proofs.YtmkgecapkeojaaaGreat.Cmp
open Go.Proofs.YtmkgecapkeojaaaGreat.EvP (U)
theorem eachR_all (p : List Jp → Bool) : ∀ (its : List (List Vl × List Jp)) (last : Option (List Vl)), eachR p last its = true → ∀ x ∈ its, rowMay x.1 = true ∧ p x.2 = true
 | [], _, _, x, hx => by cases hx
 | y :: ys, last, h, x, hx => by
  rw [eachR, Bool.and_eq_true, Bool.and_eq_true, Bool.and_eq_true] at h
  rcases List.mem_cons.1 hx with rfl | hx
  ·exact ⟨h.1.1.1, h.1.2⟩
  ·exact eachR_all p ys _ h.2 x hx
theorem mayE_all {l : List EdP} (h : mayE l = true) : ∀ x ∈ runsP l, rowMay x.1 = true ∧ mayJ x.2 = true := by
 unfold mayE eachP at h; rw [Bool.and_eq_true] at h; exact eachR_all _ _ _ h.2
def EOk (x : List Op8) (l : List EdP) : Prop := ∀ e ∈ l, EvP.XOk x e.f0
end Go.Proofs.YtmkgecapkeojaaaGreat.Eg
end
section
namespace Go.Proofs.YtmkgecapkeojaaaGreat.PDd
open Go.Proofs.YtmkgecapkeojaaaGreat Go.Proofs.YtmkgecapkeojaaaGreat.PDa Go.Proofs.YtmkgecapkeojaaaGreat.Eg
open Go.RowKit Go.Proofs.YtmkgecapkeojaaaGreatW.PrintWords Go.Proofs.YtmkgecapkeojaaaGreatW.PrintLast Go.Proofs.YtmkgecapkeojaaaGreatW.PrintMore
def r64 (z : Int) : Bool := decide (-9223372036854775808 ≤ z) && decide (z ≤ 9223372036854775807)
theorem r64_of {z : Int} (h : r64 z = true) : EvP.R64 z := by
 unfold r64 at h; rw [Bool.and_eq_true] at h; exact ⟨of_decide_eq_true h.1, of_decide_eq_true h.2⟩
def okEs (l : List S41) : Bool := l.all fun e => decide (e.f0.length ≤ 4398046511104) && e.f0.all fun v => r64 v.f1
def okXs (x : List S68) : Bool := x.all fun o => r64 o.f1
theorem okEs_row {l : List S41} (h : okEs l = true) : ∀ e ∈ l, e.f0.length ≤ 4398046511104 := fun e he => by
 have := List.all_eq_true.1 h e he; rw [Bool.and_eq_true] at this; exact of_decide_eq_true this.1
theorem okX {l : List S41} {x : List S68} (h : okEs l = true) (hx : okXs x = true) : EOk x l := fun e he => by
 refine ⟨fun o ho => r64_of (List.all_eq_true.1 hx o ho), fun v hv => ?_⟩; have := List.all_eq_true.1 h e he; rw [Bool.and_eq_true, List.all_eq_true] at this; exact r64_of (this.2 v hv)
def linear_Filter.f (l0 : List S41) (l1 : List S68) : Option (List S41 × Int) := if (okEs l0 && okXs l1) = true then some ((filterP (EvP.holdsV l1) (EvP.formV l1) l0).1, (filterP (EvP.holdsV l1) (EvP.formV l1) l0).2) else none
theorem linear_Filter.calls (A0 : Option Addr) (c0 : Nat) (l0 : List (S41)) (A1 : Option Addr) (c1 : Nat) (l1 : List (S68)) (r1 : List (S41)) (r2 : Int) (w : World) (hr0 : Kd.C k41 w A0 l0.length l0) (hc0 : l0.length ≤ c0) (hr1 : Kd.C k68 w A1 l1.length l1) (hc1 : l1.length ≤ c1) (h : linear_Filter.f l0 l1 = some (r1, r2)) :
  Calls Tryz.prog 18 #[.slice A0 l0.length c0, .slice A1 l1.length c1] w fun e w' => ∃ v0_ : Value, e = .returned (.tuple #[v0_, .int .i64 r2]) ∧ Kd.R k41 41 w' w.heap.size (fun _ => True) v0_ r1 ∧ Below w.heap.size w w' := by
 unfold linear_Filter.f at h
 by_cases hl : (okEs l0 && okXs l1) = true
 ·rw [if_pos hl] at h
  rw [Bool.and_eq_true] at hl; simp only [Option.some.injEq, Prod.mk.injEq] at h; obtain ⟨rfl, rfl⟩ := h; have hx := okX hl.1 hl.2; exact Filter_calls (EvP.holdsV l1) (EvP.formV l1) A0 c0 l0 A1 c1 l1 w hr0 (okEs_row hl.1) hr1 hc1 (fun e he => (EvP.holds_E l1 e.f0 (hx e he)).get) (EvP.form_E l1).get
 ·rw [if_neg hl] at h; cases h
def linear_Project.f (l0 : List S41) (l1 : List (List S68)) : Option (List S41 × Int) := if (okEs l0 && l1.all okXs) = true then some ((projV EvP.evalV EvP.formV l1 l0).1, (projV EvP.evalV EvP.formV l1 l0).2) else none
theorem linear_Project.calls (A0 : Option Addr) (c0 : Nat) (l0 : List (S41)) (A1 : Option Addr) (c1 : Nat) (l1 : List (List (S68))) (r1 : List (S41)) (r2 : Int) (w : World) (hr0 : Kd.C k41 w A0 l0.length l0) (hc0 : l0.length ≤ c0) (hr1 : Kd.C (Kd.slice 68 k68) w A1 l1.length l1) (hc1 : l1.length ≤ c1) (h : linear_Project.f l0 l1 = some (r1, r2)) :
  Calls Tryz.prog 21 #[.slice A0 l0.length c0, .slice A1 l1.length c1] w fun e w' => ∃ v0_ : Value, e = .returned (.tuple #[v0_, .int .i64 r2]) ∧ Kd.R k41 41 w' w.heap.size (fun _ => True) v0_ r1 ∧ Below w.heap.size w w' := by
 unfold linear_Project.f at h
 by_cases hl : (okEs l0 && l1.all okXs) = true
 ·rw [if_pos hl] at h
  rw [Bool.and_eq_true] at hl; simp only [Option.some.injEq, Prod.mk.injEq] at h; obtain ⟨rfl, rfl⟩ := h; refine (Project_calls EvP.evalV EvP.formV A0 c0 l0 A1 c1 l1 w hr0 (okEs_row hl.1) hr1 (fun x hx => (EvP.form_E x).get) (fun _ _ x hx e he => (EvP.eval_E x e.f0 (okX hl.1 (List.all_eq_true.1 hl.2 x hx) e he)).get)).mono ?_; rintro e w' ⟨v, r, hp, rfl, hR, hb⟩; rw [← proj_is hp]; exact ⟨v, rfl, hR, hb⟩
 ·rw [if_neg hl] at h; cases h
end Go.Proofs.YtmkgecapkeojaaaGreat.PDd
end
section
namespace Go.Proofs.YtmkgecapkeojaaaGreat.Eg
open Go.Proofs.YtmkgecapkeojaaaGreat Go.Proofs.YtmkgecapkeojaaaGreat.PDa
open Go.RowKit Go.Proofs.YtmkgecapkeojaaaGreatW.PrintWords Go.Proofs.YtmkgecapkeojaaaGreatW.PrintLast Go.Proofs.YtmkgecapkeojaaaGreatW.PrintMore
open Go.Proofs.YtmkgecapkeojaaaGreat.Stp Go.Proofs.YtmkgecapkeojaaaGreat.Rw Go.Proofs.YtmkgecapkeojaaaGreat.Canon
open Go.Proofs.YtmkgecapkeojaaaGreat.EvP (U XOk evalV formV)
def madeL (mk : List Vl → List Vl × Int) (out : List EdP) : List EdP → List EdP × Int
 | [] => (out, 0)
 | e :: es => if (mk e.f0).2 ≠ 0 then ([], (mk e.f0).2) else madeL mk (out ++ [⟨(mk e.f0).1, e.f1, e.f2⟩]) es
theorem bec_run (mk : List Vl → List Vl × Int) : ∀ (es : List EdP) (out : List EdP) (r : List Vl) (js : List Jp), (∀ x ∈ runAt r js es, ((mk x.1).2 = 0 → rowMay (mk x.1).1 = true) ∧ mayJ x.2 = true) →
  becR mk out (runAt r js es) = if (mk r).2 ≠ 0 then ([], (mk r).2) else madeL mk (out ++ putP [] (mk r).1 js) es
 | [], out, r, js, h => by
  have h1 := h (r, js) (by simp [runAt]); simp only [runAt, becR, madeL]
  split
  ·rfl
  ·rename_i c
   have hb : buildP (mk r).1 js = putP [] (mk r).1 js := by unfold buildP; rw [h1.1 (by simpa using c), h1.2]; rfl
   rw [hb]
 | e :: es, out, r, js, h => by
  rw [runAt] at h ⊢
  by_cases he : eqR e.f0 r = true
  ·rw [if_pos he] at h ⊢
   rw [bec_run mk es out r _ h]; have e1 : e.f0 = r := (eqR_iff _ _).1 he
   by_cases h2 : (mk r).2 ≠ 0
   ·rw [if_pos h2, if_pos h2]
   ·rw [if_neg h2, if_neg h2, madeL, e1, if_neg h2, List.append_assoc]
    congr 2
    unfold putP; rw [List.nil_append, List.nil_append, List.map_append]
    rfl
  ·rw [if_neg he] at h ⊢
   have h1 := h (r, js) List.mem_cons_self; have ih := fun o => bec_run mk es o e.f0 [jmpE e] (fun x hx => h x (List.mem_cons_of_mem _ hx))
   simp only [becR]
   by_cases h2 : (mk r).2 ≠ 0
   ·rw [if_pos h2, if_pos h2]
   ·have hb : buildP (mk r).1 js = putP [] (mk r).1 js := by unfold buildP; rw [h1.1 (by simpa using h2), h1.2]; rfl
    rw [if_neg h2, if_neg h2, ih, madeL, hb]
    rfl
theorem bec_all (mk : List Vl → List Vl × Int) (l : List EdP) (h : mayE l = true) (hmk : ∀ r, rowMay r = true → (∃ e ∈ l, e.f0 = r) → (mk r).2 = 0 → rowMay (mk r).1 = true) : becR mk [] (runsP l) = madeL mk [] l := by
 have ha := mayE_all h; have hin : ∀ x ∈ runsP l, ∃ e ∈ l, e.f0 = x.1 := fun x hx => by obtain ⟨e, he, h1⟩ := (runs_mem l x hx).1; exact ⟨e, he, h1.symm⟩
 cases l with
 | nil => rfl
 | cons e es =>
  rw [runsP] at ha hin ⊢; rw [bec_run mk es [] e.f0 [jmpE e] (fun x hx => ⟨hmk x.1 (ha x hx).1 (hin x hx), (ha x hx).2⟩), madeL]
  rfl
end Go.Proofs.YtmkgecapkeojaaaGreat.Eg
end
section
namespace Go.Proofs.YtmkgecapkeojaaaGreat.Eg
open Go.Proofs.YtmkgecapkeojaaaGreat Go.Proofs.YtmkgecapkeojaaaGreat.PDa
open Go.RowKit Go.Proofs.YtmkgecapkeojaaaGreatW.PrintWords Go.Proofs.YtmkgecapkeojaaaGreatW.PrintLast Go.Proofs.YtmkgecapkeojaaaGreatW.PrintMore
open Go.Proofs.YtmkgecapkeojaaaGreat.SortP Go.Proofs.YtmkgecapkeojaaaGreat.SortM Go.Proofs.YtmkgecapkeojaaaGreat.Run Go.Proofs.YtmkgecapkeojaaaGreat.Stp Go.Proofs.YtmkgecapkeojaaaGreat.Rw
theorem Grow_calls (n : Nat) (w : World) (hn : n ≤ 1000000) :
  Calls Tryz.prog 113 #[.slice none 0 0, .int .i64 (n : Int)] w fun e w' => ∃ v, e = .returned v ∧ Kd.R kEl tE w' w.heap.size (fun _ => True) v [] ∧ Below w.heap.size w w' := by
 have hu22 : Tryz.prog.underlying 22 = some (.slice 41) := by kernel_rfl
 have hu3 : Tryz.prog.underlying 3 = some (.int .i64) := by kernel_rfl
 have HU := Lib.hid hu22
 by_cases h0 : n = 0
 ·subst h0
  go_enter Tryz.func113, Tryz.ntmps113; go_wp2; go_ret; exact ⟨_, rfl, Kd.R_nil _ _ _ _ _, Below.refl _ _⟩
 ·have e1 : decide ((n : Int) > 0) = true := decide_eq_true zq4
  have h1 : (n : Int) ≤ 1000000 := by omega
  have h2 : 1 ≤ (n : Int) := by omega
  clear h0; go_enter Tryz.func113, Tryz.ntmps113
  go_wp2_with (at_builtin; refine Kd.R_append_zeros kEl (w0 := w) w.heap.size rfl (.tmp 20) (.tmp 21) 22 3 41 (.agg #[.slice none 0 0, (.int .i64 0), (.int .i64 0)]) 40 rfl hu22 hu3 info41 rfl zq34 zq4 (.slice none 0 0) [] ⟨none, 0, [], 0, 0⟩ (n : Int) (fun _ => True) rfl rfl ?aZ (fun _ _ => trivial) ?aO ?a0 ?aB ?aS ?aL ?_; (case aZ => rfl); (case aO => exact Kd.R_nil _ _ _ _ _); (case a0 => omega); (case aB => exact Below.refl _ _); (case aS => exact Nat.le_refl _); (case aL => simp only [List.length_nil]; omega); intro v1 w1 ho hb hg hat; obtain ⟨A, c, rfl⟩ := Kd.R_slice ho; have hrd := Kd.R_reads' ho; have hcut : ∀ W, (Instr.slice 22 (.slice A ([] ++ List.replicate (n : Int).toNat (⟨none, 0, [], 0, 0⟩ : El)).length c) none (some (.int .i64 0)) none).run Tryz.prog W = .ok (.slice A 0 c) W := cut_to _ _ .i64 hu22 rfl A _ c 0 zq4 zq4 hrd.2.1; have HO := Lib.hid (Kd.R_take ho (Nat.zero_le _)); have HB := Lib.hid hb; clear ho hb hg hat hrd)
  go_ret; exact ⟨_, rfl, HO.out, HB.out⟩
theorem ConcatEl_calls (ad : Addr) (c : Nat) (A0 A1 : Option Addr) (c0 c1 : Nat) (a b : List El) (w : World) (h0 : w.cell? ad = some (.slice A0 a.length c0)) (h1 : w.cell? ⟨ad.block, ad.off + 1, none⟩ = some (.slice A1 b.length c1))
  (ha : Kd.C kEl w A0 a.length a) (hb : Kd.C kEl w A1 b.length b) (la : a.length ≤ 4096) (lb : b.length ≤ 4096) :
  Calls Tryz.prog 70 #[.slice (some ad) 2 c] w fun e w' => ∃ v, e = .returned v ∧ Kd.R kEl tE w' w.heap.size (fun _ => True) v (a ++ b) ∧ Below w.heap.size w w' := by
 have hu22 : Tryz.prog.underlying 22 = some (.slice 41) := by kernel_rfl
 have H0 := Lib.hid h0; have H1 := Lib.hid h1; have HA := Lib.hid ha; have HBb := Lib.hid hb; obtain ⟨m, hm⟩ : ∃ m, a.length + b.length = m := ⟨_, rfl⟩
 have GC := Lib.hid (fun w1 => Grow_calls m w1 zq4); have HM := Lib.hid hm; have lm : (m : Int) ≤ 8192 := by omega
 clear hm; have la' : (a.length : Int) ≤ 4096 := by omega
 have lb' : (b.length : Int) ≤ 4096 := by omega
 clear h0 h1 ha hb; go_enter Tryz.func70, Tryz.ntmps70; go_wp2
 go_loop [11, 3] (fun v11 v3 => (v11 = .int .i64 0 ∧ v3 = .int .i64 0) ∨ (v11 = .int .i64 1 ∧ v3 = .int .i64 (a.length : Int)) ∨ (v11 = .int .i64 2 ∧ v3 = .int .i64 (m : Int))) (fun v11 v3 => 2 - (intOf v11).toNat)
 case atStart => exact .inl ⟨rfl, rfl⟩
 case round =>
  rcases hrel with ⟨rfl, rfl⟩ | ⟨rfl, rfl⟩ | ⟨rfl, rfl⟩
  ·have x0 := H0.out
   go_wp2
   go_round
   case rel => exact .inr (.inl ⟨rfl, rfl⟩)
   case measure => decide
  ·have x0 := H1.out
   go_wp2
   go_round
   case rel => exact .inr (.inr ⟨rfl, by rw [← HM.out]; go_num⟩)
   case measure => decide
  ·go_wp2_with (go_at_call 113; (with_reducible refine (GC.out _).mono ?_); rintro e w1 ⟨v, rfl, hR, hB⟩; have HR := Lib.hid hR; have HB := Lib.hid hB; clear hR hB)
   go_loopw [27, 6] (fun v27 v6 wr => ∃ o, (v27 = .int .i64 0 ∧ [] = o ∨ v27 = .int .i64 1 ∧ a = o ∨ v27 = .int .i64 2 ∧ a ++ b = o) ∧ Aside0 (Kd.R kEl tE wr w.heap.size (fun _ => True) v6 o) ∧ Aside0 (Below w.heap.size w wr)) (fun v27 v6 wr => 2 - (intOf v27).toNat)
   case atStart => exact ⟨[], .inl ⟨rfl, rfl⟩, ⟨HR.out⟩, ⟨HB.out⟩⟩
   case round =>
    obtain ⟨o, hr, HR, HB⟩ := hrel; have x0 := pw_cell_below HB.out H0.out; have x1 := pw_cell_below HB.out H1.out
    rcases hr with ⟨rfl, rfl⟩ | ⟨rfl, rfl⟩ | ⟨rfl, rfl⟩
    ·go_wp2_with (at_builtin; refine Kd.R_append_rows kEl (w0 := w) w.heap.size rfl (.tmp 31) (.tmp 32) 22 41 (.agg #[.slice none 0 0, (.int .i64 0), (.int .i64 0)]) 40 rfl hu22 info41 rfl zq34 zq4 u6 [] a _ _ _ (fun _ => True) (fun _ => False) rfl rfl ?aO1 ?aR1 (fun _ _ h => h) (fun _ h => h.elim) (fun _ _ => trivial) ?aB1 ?aS1 ?aL1 ?_; (case aO1 => exact HR.out); (case aR1 => exact Kd.C_below HA.out HB.out); (case aB1 => exact HB.out); (case aS1 => exact HB.out.size); (case aL1 => simp only [List.length_nil]; omega); intro v1 w1 ho hb hg hat; have HO2 := Lib.hid ho; have HB2 := Lib.hid hb; clear ho hb hg hat)
     go_roundw
     case rel => exact ⟨_, .inr (.inl ⟨rfl, rfl⟩), ⟨HO2.out⟩, ⟨HB2.out⟩⟩
     case measure => decide
    ·go_wp2_with (at_builtin; refine Kd.R_append_rows kEl (w0 := w) w.heap.size rfl (.tmp 31) (.tmp 32) 22 41 (.agg #[.slice none 0 0, (.int .i64 0), (.int .i64 0)]) 40 rfl hu22 info41 rfl zq34 zq4 u6 a b _ _ _ (fun _ => True) (fun _ => False) rfl rfl ?aO2 ?aR2 (fun _ _ h => h) (fun _ h => h.elim) (fun _ _ => trivial) ?aB2 ?aS2 ?aL2 ?_; (case aO2 => exact HR.out); (case aR2 => exact Kd.C_below HBb.out HB.out); (case aB2 => exact HB.out); (case aS2 => exact HB.out.size); (case aL2 => omega); intro v1 w1 ho hb hg hat; have HO2 := Lib.hid ho; have HB2 := Lib.hid hb; clear ho hb hg hat)
     go_roundw
     case rel => exact ⟨_, .inr (.inr ⟨rfl, rfl⟩), ⟨HO2.out⟩, ⟨HB2.out⟩⟩
     case measure => decide
    ·go_wp2
     go_ret; exact ⟨_, rfl, HR.out, HB.out⟩
theorem C_of_El {W : World} {A : Option Addr} {ls : List El} (h : Kd.C kEl W A ls.length ls) (hok : ∀ x ∈ ls, OkEl W x) : Kd.C kE W A (ls.map edP).length (ls.map edP) := by
 refine ⟨rfl, by rw [List.length_map]; exact h.2.1, fun hp => ?_⟩; rw [List.length_map] at hp; obtain ⟨ad, e, hc⟩ := h.2.2 hp; refine ⟨ad, e, fun j p hj => ?_⟩; rw [List.getElem?_map] at hj; obtain ⟨x, hx, rfl⟩ := Option.map_eq_some_iff.1 hj; obtain ⟨cs, hl, hK, hcc⟩ := hc j x hx; obtain ⟨h1, h2⟩ := hok x (List.mem_of_getElem? hx); obtain rfl : cs = SortE.enc x := hK; exact ⟨_, hl, k41_mk W (edP x) h2 h1, hcc⟩
theorem OkEl.below {w w1 : World} {x : El} (h : OkEl w x) (hb : Below w.heap.size w w1) : OkEl w1 x := ⟨Kd.C_below h.1 hb, h.2⟩
theorem row_mem {g : Nat → El} {n : Nat} {x : El} (h : x ∈ row g n) : ∃ i, i < n ∧ x = g i := by
 unfold row at h; obtain ⟨i, hi, rfl⟩ := List.mem_map.1 h; exact ⟨i, List.mem_range.1 hi, rfl⟩
theorem Concat_calls (ad : Addr) (c : Nat) (A0 A1 : Option Addr) (c0 c1 : Nat) (a b : List EdP) (w : World) (h0 : w.cell? ad = some (.slice A0 a.length c0)) (h1 : w.cell? ⟨ad.block, ad.off + 1, none⟩ = some (.slice A1 b.length c1))
  (ha : Kd.C kE w A0 a.length a) (hb : Kd.C kE w A1 b.length b) (la : a.length ≤ 4096) (lb : b.length ≤ 4096) :
  Calls Tryz.prog 70 #[.slice (some ad) 2 c] w fun e w' => ∃ A c, e = .returned (.slice A (a ++ b).length c) ∧ Kd.C kE w' A (a ++ b).length (a ++ b) ∧ (a ++ b).length ≤ c ∧ Below w.heap.size w w' := by
 obtain ⟨g1, p1, p2, p3⟩ := els_of ha; obtain ⟨g2, q1, q2, q3⟩ := els_of hb; have e1 : (row g1 a.length).length = a.length := row_len _ _; have e2 : (row g2 b.length).length = b.length := row_len _ _; have h := ConcatEl_calls ad c A0 A1 c0 c1 (row g1 a.length) (row g2 b.length) w (by rw [e1]; exact h0) (by rw [e2]; exact h1) (by rw [e1]; exact p1) (by rw [e2]; exact q1) zq4 zq4; refine h.mono ?_; rintro e w' ⟨v, rfl, hR, hB⟩; obtain ⟨A, c', rfl⟩ := Kd.R_slice hR; have hrd := Kd.R_reads' hR; have hm : (row g1 a.length ++ row g2 b.length).map edP = a ++ b := by
  rw [List.map_append]; exact congr (congrArg _ p2) q2
 have hl : (row g1 a.length ++ row g2 b.length).length = (a ++ b).length := by rw [← hm, List.length_map]
 have hC := C_of_El hrd.2.2 (fun x hx => by
  rcases List.mem_append.1 hx with hx | hx
  ·obtain ⟨i, hi, rfl⟩ := row_mem hx
   exact (p3 i hi).below hB
  ·obtain ⟨i, hi, rfl⟩ := row_mem hx
   exact (q3 i hi).below hB)
 rw [hm] at hC; refine ⟨A, c', by rw [hl], hC, by rw [← hl]; exact hrd.2.1, hB⟩
def AddIs (a b : List EdP) (r : List EdP × Int) : Prop := ((mayE a && mayE b) = false ∧ r = ([], 2)) ∨ (mayE a = true ∧ mayE b = true ∧ NormIs (a ++ b) r)
theorem Add_calls (A0 A1 : Option Addr) (c0 c1 : Nat) (a b : List EdP) (w : World) (hr0 : Kd.C kE w A0 a.length a) (hr1 : Kd.C kE w A1 b.length b) (hw0 : ∀ e ∈ a, e.f0.length ≤ 4398046511104) (hw1 : ∀ e ∈ b, e.f0.length ≤ 4398046511104) :
  Calls Tryz.prog 33 #[.slice A0 a.length c0, .slice A1 b.length c1] w fun e w' => ∃ v r, AddIs a b r ∧ e = .returned (.tuple #[v, .int .i64 r.2]) ∧ Kd.R kE tE w' w.heap.size (fun _ => True) v r.1 ∧ Below w.heap.size w w' := by
 have MY0 := Lib.hid (fun (w1 : World) (h : Below w.heap.size w w1) => May_calls A0 c0 a w1 (Kd.C_below hr0 h) hw0); have MY1 := Lib.hid (fun (w1 : World) (h : Below w.heap.size w w1) => May_calls A1 c1 b w1 (Kd.C_below hr1 h) hw1); have HA := Lib.hid hr0; have HBb := Lib.hid hr1; clear hr0 hr1 hw0 hw1; cases hma : mayE a with
 | false =>
  rw [hma] at MY0; have HI := Lib.hid (show AddIs a b ([], 2) from .inl ⟨by rw [hma]; rfl, rfl⟩); clear hma; go_enter Tryz.func33, Tryz.ntmps33
  go_wp2_with (go_at_call 46; (with_reducible refine (MY0.out _ (Below.refl _ _)).mono ?_); rintro e w1 ⟨rfl, hb1⟩; have HB1 := Lib.hid hb1; clear hb1)
  go_ret2; exact ⟨_, _, HI.out, rfl, Kd.R_nil _ _ _ _ _, HB1.out⟩
 | true =>
  rw [hma] at MY0; cases hmb : mayE b with
  | false =>
   rw [hmb] at MY1; have HI := Lib.hid (show AddIs a b ([], 2) from .inl ⟨by rw [hmb, Bool.and_false], rfl⟩); clear hma hmb; go_enter Tryz.func33, Tryz.ntmps33
   go_wp2_with (first | (go_at_call 46; (with_reducible refine (MY0.out _ (Below.refl _ _)).mono ?_); rintro e w1 ⟨rfl, hb1⟩; have HB1 := Lib.hid hb1; clear hb1) | (go_at_call 46; (with_reducible refine (MY1.out _ HB1.out).mono ?_); rintro e w2 ⟨rfl, hb2⟩; have HB2 := Lib.hid (HB1.out.trans (hb2.mono HB1.out.size)); clear hb2))
   go_ret2; exact ⟨_, _, HI.out, rfl, Kd.R_nil _ _ _ _ _, HB2.out⟩
  | true =>
   rw [hmb] at MY1; have HI := Lib.hid (fun r (h : NormIs (a ++ b) r) => (show AddIs a b r from .inr ⟨hma, hmb, h⟩)); have la := mayE_len hma; have lb := mayE_len hmb; have CC := Lib.hid (fun (ad : Addr) (c : Nat) (w1 : World) (h0 : w1.cell? ad = some (.slice A0 a.length c0)) (h1 : w1.cell? ⟨ad.block, ad.off + 1, none⟩ = some (.slice A1 b.length c1)) (h : Below w.heap.size w w1) => Concat_calls ad c A0 A1 c0 c1 a b w1 h0 h1 (Kd.C_below HA.out h) (Kd.C_below HBb.out h) la lb); have NC := Lib.hid (fun (A : Option Addr) (c : Nat) (w1 : World) (h : Kd.C kE w1 A (a ++ b).length (a ++ b)) => NormE_calls A c (a ++ b) w1 h (by rw [List.length_append]; omega)); clear hma hmb la lb; obtain ⟨ab, hab⟩ : ∃ z, a ++ b = z := ⟨_, rfl⟩
   rw [hab] at CC NC HI; clear hab; go_enter Tryz.func33, Tryz.ntmps33
   go_wp2_with (first | (go_at_call 46; (with_reducible refine (MY0.out _ (Below.refl _ _)).mono ?_); rintro e w1 ⟨rfl, hb1⟩; have HB1 := Lib.hid hb1; clear hb1) | (go_at_call 46; (with_reducible refine (MY1.out _ HB1.out).mono ?_); rintro e w2 ⟨rfl, hb2⟩; have HB2 := Lib.hid (HB1.out.trans (hb2.mono HB1.out.size)); clear hb2))
   have HBW := Lib.hid (below_alloc HB2.out (Obj.cells #[Value.slice A0 a.length c0, Value.slice A1 b.length c1] 22)); refine (CC.out _ _ _ zq30 zq30 HBW.out).mono ?_; rintro e w3 ⟨A, c, rfl, hC, hc, hb3⟩; have HB3 := Lib.hid (HBW.out.trans (hb3.mono HBW.out.size)); have NC2 := Lib.hid (NC.out A c w3 hC); clear hb3 hC hc CC NC
   go_wp2_with (go_at_call 65; (with_reducible refine (NC2.out).mono ?_); rintro e w4 ⟨v, r, hn, rfl, hR, hb4⟩; have HB4 := Lib.hid (HB3.out.trans (hb4.mono HB3.out.size)); have HR4 := Lib.hid (Kd.R_lower hR HB3.out.size); have HN := Lib.hid hn; clear hb4 hR hn)
   go_ret2; exact ⟨v, r, HI.out r HN.out, rfl, HR4.out, HB4.out⟩
end Go.Proofs.YtmkgecapkeojaaaGreat.Eg
end
section
namespace Go.Proofs.YtmkgecapkeojaaaGreat.Eg
open Go.Proofs.YtmkgecapkeojaaaGreat Go.Proofs.YtmkgecapkeojaaaGreat.PDa
open Go.Proofs.YtmkgecapkeojaaaGreat.EvP (evalV formV holdsV)
open Go.RowKit Go.Proofs.YtmkgecapkeojaaaGreatW.PrintWords Go.Proofs.YtmkgecapkeojaaaGreat.Stp Go.Proofs.YtmkgecapkeojaaaGreat.Rw Go.Proofs.YtmkgecapkeojaaaGreat.Cmp Go.Proofs.YtmkgecapkeojaaaGreat.Canon
def addV (a b : List EdP) : List EdP × Int := if (mayE a && mayE b) = true then normV (a ++ b) else ([], 2)
theorem add_is {a b : List EdP} {r : List EdP × Int} (h : AddIs a b r) : r = addV a b := by
 unfold addV
 rcases h with ⟨h1, h2⟩ | ⟨h1, h2, h3⟩
 ·rw [if_neg (by rw [h1]; decide), h2]
 ·rw [if_pos (by rw [h1, h2]; rfl)]; exact norm_is h3
def S (φ : KK → Int) : List (KK × Int) → Int
 | [] => 0
 | x :: xs => φ x.1 * x.2 + S φ xs
theorem jumpsOf_filter (p : List Vl → Bool) (r : List Vl) : ∀ l : List EdP, (jumpsOf (l.filter fun e => p e.f0) r).length ≤ (jumpsOf l r).length := fun l => by
 unfold jumpsOf; rw [List.length_map, List.length_map]; exact (List.Sublist.filter _ List.filter_sublist).length_le
theorem MayP.filter {l : List EdP} (h : MayP l) (p : List Vl → Bool) : MayP (l.filter fun e => p e.f0) := by
 refine ⟨?_, fun e he => h.each e (List.mem_filter.1 he).1, fun r => Nat.le_trans (jumpsOf_filter p r l) (h.few r), Nat.le_trans (List.length_filter_le _ _) h.len⟩; have := h.can.filter (fun x => p x.1.1); rw [List.filter_map] at this; exact this
end Go.Proofs.YtmkgecapkeojaaaGreat.Eg
end
section
namespace Go.Proofs.YtmkgecapkeojaaaGreat.Eg
open Go.Proofs.YtmkgecapkeojaaaGreat Go.Proofs.YtmkgecapkeojaaaGreat.PDa
open Go.RowKit Go.Proofs.YtmkgecapkeojaaaGreatW.PrintWords Go.Proofs.YtmkgecapkeojaaaGreatW.PrintLast Go.Proofs.YtmkgecapkeojaaaGreatW.PrintMore
open Go.Proofs.YtmkgecapkeojaaaGreat.Stp Go.Proofs.YtmkgecapkeojaaaGreat.Rw Go.Proofs.YtmkgecapkeojaaaGreat.SortM
theorem hsame_calls (A0 A1 : Option Addr) (c0 c1 : Nat) (l : List EdP) (w : World) (hr0 : Kd.C kE w A0 l.length l) (hc0 : l.length ≤ c0) (hr1 : Kd.C kE w A1 l.length l) (hc1 : l.length ≤ c1) (hl : l.length ≤ 1000000000) (hrow : ∀ e ∈ l, e.f0.length ≤ 4398046511104) :
  Calls Tryz.prog 20 #[.slice A0 l.length c0, .slice A1 l.length c1] w fun e w' => e = .returned (.bool true) ∧ Below w.heap.size w w' := by
 have HA := Lib.hid hr0; have HD := Lib.hid hr1; have HRW := Lib.hid hrow; have HL := Lib.hid hl; clear hr0 hr1 hrow hc0 hc1 hl; go_enter Tryz.func20, Tryz.ntmps20; go_wp2
 go_loopw [5] (fun v5 wr => ∃ (i : Nat), i ≤ l.length ∧ v5 = .int .i64 (i : Int) ∧ Aside0 (Below w.heap.size w wr)) (fun v5 wr => l.length - (intOf v5).toNat)
 case atStart => exact ⟨0, Nat.zero_le _, rfl, ⟨Below.refl _ _⟩⟩
 case round =>
  obtain ⟨i, hi, rfl, HB⟩ := hrel; have hll := HL.out
  by_cases c : i < l.length
  ·obtain ⟨X, hX⟩ : ∃ X, l[i] = X := ⟨_, rfl⟩
   obtain ⟨ad, Ax, cx, e1, x0, x1, x2, x3, x4⟩ := at_T41 (Kd.C_below HA.out HB.out) (i : Int) zq4 zq4; obtain ⟨bd, Ay, cy, e2, y0, y1, y2, y3, y4⟩ := at_T41 (Kd.C_below HD.out HB.out) (i : Int) zq4 zq4; rw [Int.toNat_natCast, rdE l i c, hX] at x0 x1 x2 y0 y1 y2; rw [rdE l i c, hX] at x3 x4 y3 y4; cases e1; cases e2; have hs := same06 X.f0 X.f0 (HRW.out X (by rw [← hX]; exact List.getElem_mem c)); rw [eqR_refl] at hs; obtain ⟨ks, hks⟩ := hs.get; have CM := Lib.hid (fun (p : BelowOf wr) => (show Calls Tryz.prog 53 #[.slice Ax X.f0.length cx, .slice Ay X.f0.length cy] p.W (fun e w' => e = .returned (.bool true) ∧ Below p.W.heap.size p.W w') from (r06_Same.calls ks Ax cx X.f0 Ay cy X.f0 true p.W (Kd.C_below x4 p.h) x3 (Kd.C_below y4 p.h) y3 hks).mono fun e w' z => ⟨z.1, z.2.below⟩)); have x0' := fun p => BelowOf.cell x0 p
   have x1' := fun p => BelowOf.cell x1 p
   have x2' := fun p => BelowOf.cell x2 p
   have y0' := fun p => BelowOf.cell y0 p
   have y1' := fun p => BelowOf.cell y1 p
   have y2' := fun p => BelowOf.cell y2 p
   have pI : (0 ≤ (i : Int)) = True := eq_true zq4; have qI : ((i : Int) < (l.length : Int)) = True := eq_true zq4; clear x3 x4 y3 y4 hs hks hX; go_wp2; refine wp_region_quiet_below zq17 zq17 ?_
   repeat (go_big_quiet_step (exact below_calls (CM.out _)))
   refine wpQuiet_nil ?_; intro wq hw1; have HWQ := Lib.hid (show Below wr.heap.size wr wq by obtain ⟨p, rfl⟩ := hw1; exact p.h); have HBN := Lib.hid (HB.out.trans (HWQ.out.mono HB.out.size)); clear hw1 x0' x1' x2' y0' y1' y2' x0 x1 x2 y0 y1 y2; go_wp2; go_roundw
   case rel => exact ⟨i + 1, by omega, by go_num, ⟨HBN.out⟩⟩
   case measure => simp [intOf]; omega
  ·obtain rfl : i = l.length := by omega
   go_wp2; go_ret; exact ⟨rfl, HB.out⟩
end Go.Proofs.YtmkgecapkeojaaaGreat.Eg
end
section
namespace Go.Proofs.YtmkgecapkeojaaaGreat.Eg
open Go.Proofs.YtmkgecapkeojaaaGreat Go.Proofs.YtmkgecapkeojaaaGreat.PDa
open Go.RowKit Go.Proofs.YtmkgecapkeojaaaGreatW.PrintWords Go.Proofs.YtmkgecapkeojaaaGreatW.PrintLast Go.Proofs.YtmkgecapkeojaaaGreatW.PrintMore
open Go.Proofs.YtmkgecapkeojaaaGreat.Stp Go.Proofs.YtmkgecapkeojaaaGreat.Rw
structure Hold (p : Prop) : Prop where
 out : p
theorem hold_intro {p : Prop} (h : Hold p) : p := h.out
def v1 : Vl := ⟨1, 1, ⟨#[]⟩⟩
def v2 : Vl := ⟨1, 2, ⟨#[]⟩⟩
def e1 : EdP := ⟨[v1], 2, 1⟩
def e2 : EdP := ⟨[v1], 5, -1⟩
def e3 : EdP := ⟨[v2], 5, 1⟩
def lxw : List Op8 := [⟨3, 0, ⟨#[]⟩⟩, ⟨1, 2, ⟨#[]⟩⟩, ⟨13, 0, ⟨#[]⟩⟩]
def pxw : List Op8 := [⟨1, 7, ⟨#[]⟩⟩]
theorem C_lit {α : Type} {d : Kd α} {W : World} {B : Nat} {t : TypeId} {cs : Array Value} {ps qs : List α} {inner : List Value} {n : Nat} (hq : ps = qs) (hb : W.heap[B]? = some (.cells cs t (0, 0))) (hi : cs.toList = inner) (hn : qs.length = n) (hn2 : n ≤ 100) (hr : Reps (d.K W) d.sz ps inner) : Kd.C d W (some ⟨B, 0, none⟩) n qs := by
 subst hq; subst hn; have ho : OwnRow (d.K W) t d.sz W 0 (.slice (some ⟨B, 0, none⟩) ps.length ps.length) ps := ⟨inner, ⟨hr.1, .inr ⟨B, ps.length, cs, rfl, Nat.zero_le _, hb, Nat.le_refl _, by unfold maxLen; omega, by rw [← Array.length_toList, hi, hr.1], by rw [hi, List.take_of_length_le (by rw [hr.1]; exact Nat.le_refl _)]⟩⟩, hr⟩
 obtain ⟨A, c, he, _, h⟩ := OwnRow.reads ho; cases he; exact h
theorem live_calls (w : World) (fA : PDd.linear_Filter.f [e1, e2, e3] lxw = some ([e3], 0)) (fB : PDd.linear_Project.f [e1, e2, e3] [pxw] = some ([⟨[⟨1, 7, ⟨#[]⟩⟩], 2, 1⟩], 0)) :
  Calls Tryz.prog 17 #[] w fun e w' => e = .returned (.bool true) ∧ Below w.heap.size w w' := by
 go_enter Tryz.func17, Tryz.ntmps17
 go_wp2_with (go_at_call 18; refine hold_intro ?_)
 refine ⟨?_⟩; obtain ⟨W1, hW1⟩ : ∃ W1, ((((w.alloc (.cells #[.int .i64 1, .int .i64 1, .string ⟨#[]⟩] 65 (0, 0))).alloc (.cells #[.int .i64 1, .int .i64 1, .string ⟨#[]⟩] 65 (0, 0))).alloc (.cells #[.int .i64 1, .int .i64 2, .string ⟨#[]⟩] 65 (0, 0))).alloc (.cells #[.slice (some ⟨w.heap.size, 0, none⟩) 1 1, .int .i64 2, .int .i64 1, .slice (some ⟨w.heap.size + 1, 0, none⟩) 1 1, .int .i64 5, .int .i64 (-1), .slice (some ⟨w.heap.size + 1 + 1, 0, none⟩) 1 1, .int .i64 5, .int .i64 1] 41 (0, 0))).alloc (.cells #[.int .i64 3, .int .i64 0, .string ⟨#[]⟩, .int .i64 1, .int .i64 2, .string ⟨#[]⟩, .int .i64 13, .int .i64 0, .string ⟨#[]⟩] 68 (0, 0)) = W1 := ⟨_, rfl⟩
 have hsW1 : W1.heap.size = w.heap.size + 5 := by rw [← hW1]; simp
 have hbW1 : Below w.heap.size w W1 := by rw [← hW1]; exact below_alloc (below_alloc (below_alloc (below_alloc (below_alloc (Below.refl _ w) _) _) _) _) _
 have k0 : W1.heap[w.heap.size]? = some (.cells #[.int .i64 1, .int .i64 1, .string ⟨#[]⟩] 65 (0, 0)) := by
  have h1 := blk_new (w) (.cells #[.int .i64 1, .int .i64 1, .string ⟨#[]⟩] 65 (0, 0)); rw [← hW1]; exact blk_alloc (blk_alloc (blk_alloc (blk_alloc (h1) _) _) _) _
 have k1 : W1.heap[w.heap.size + 1]? = some (.cells #[.int .i64 1, .int .i64 1, .string ⟨#[]⟩] 65 (0, 0)) := by
  have h1 := blk_new (w.alloc (.cells #[.int .i64 1, .int .i64 1, .string ⟨#[]⟩] 65 (0, 0))) (.cells #[.int .i64 1, .int .i64 1, .string ⟨#[]⟩] 65 (0, 0)); rw [World.size_alloc] at h1; rw [← hW1]; exact blk_alloc (blk_alloc (blk_alloc (h1) _) _) _
 have k2 : W1.heap[w.heap.size + 1 + 1]? = some (.cells #[.int .i64 1, .int .i64 2, .string ⟨#[]⟩] 65 (0, 0)) := by
  have h1 := blk_new ((w.alloc (.cells #[.int .i64 1, .int .i64 1, .string ⟨#[]⟩] 65 (0, 0))).alloc (.cells #[.int .i64 1, .int .i64 1, .string ⟨#[]⟩] 65 (0, 0))) (.cells #[.int .i64 1, .int .i64 2, .string ⟨#[]⟩] 65 (0, 0)); rw [World.size_alloc, World.size_alloc] at h1; rw [← hW1]; exact blk_alloc (blk_alloc (h1) _) _
 have k3 : W1.heap[w.heap.size + 1 + 1 + 1]? = some (.cells #[.slice (some ⟨w.heap.size, 0, none⟩) 1 1, .int .i64 2, .int .i64 1, .slice (some ⟨w.heap.size + 1, 0, none⟩) 1 1, .int .i64 5, .int .i64 (-1), .slice (some ⟨w.heap.size + 1 + 1, 0, none⟩) 1 1, .int .i64 5, .int .i64 1] 41 (0, 0)) := by
  have h1 := blk_new (((w.alloc (.cells #[.int .i64 1, .int .i64 1, .string ⟨#[]⟩] 65 (0, 0))).alloc (.cells #[.int .i64 1, .int .i64 1, .string ⟨#[]⟩] 65 (0, 0))).alloc (.cells #[.int .i64 1, .int .i64 2, .string ⟨#[]⟩] 65 (0, 0))) (.cells #[.slice (some ⟨w.heap.size, 0, none⟩) 1 1, .int .i64 2, .int .i64 1, .slice (some ⟨w.heap.size + 1, 0, none⟩) 1 1, .int .i64 5, .int .i64 (-1), .slice (some ⟨w.heap.size + 1 + 1, 0, none⟩) 1 1, .int .i64 5, .int .i64 1] 41 (0, 0)); rw [World.size_alloc, World.size_alloc, World.size_alloc] at h1; rw [← hW1]; exact blk_alloc (h1) _
 have k4 : W1.heap[w.heap.size + 1 + 1 + 1 + 1]? = some (.cells #[.int .i64 3, .int .i64 0, .string ⟨#[]⟩, .int .i64 1, .int .i64 2, .string ⟨#[]⟩, .int .i64 13, .int .i64 0, .string ⟨#[]⟩] 68 (0, 0)) := by
  have h1 := blk_new ((((w.alloc (.cells #[.int .i64 1, .int .i64 1, .string ⟨#[]⟩] 65 (0, 0))).alloc (.cells #[.int .i64 1, .int .i64 1, .string ⟨#[]⟩] 65 (0, 0))).alloc (.cells #[.int .i64 1, .int .i64 2, .string ⟨#[]⟩] 65 (0, 0))).alloc (.cells #[.slice (some ⟨w.heap.size, 0, none⟩) 1 1, .int .i64 2, .int .i64 1, .slice (some ⟨w.heap.size + 1, 0, none⟩) 1 1, .int .i64 5, .int .i64 (-1), .slice (some ⟨w.heap.size + 1 + 1, 0, none⟩) 1 1, .int .i64 5, .int .i64 1] 41 (0, 0))) (.cells #[.int .i64 3, .int .i64 0, .string ⟨#[]⟩, .int .i64 1, .int .i64 2, .string ⟨#[]⟩, .int .i64 13, .int .i64 0, .string ⟨#[]⟩] 68 (0, 0)); rw [World.size_alloc, World.size_alloc, World.size_alloc, World.size_alloc] at h1; rw [← hW1]; exact h1
 rw [hW1]; have r1 : ∀ (b : Nat) (v : Vl), W1.heap[b]? = some (.cells #[.int .i64 v.f0, .int .i64 v.f1, .string v.f2] 65 (0, 0)) → Kd.C kV W1 (some ⟨b, 0, none⟩) 1 [v] := fun b v h => by
  refine C_lit (d := kV) (ps := [] ++ [v]) (inner := [] ++ [.int .i64 v.f0, .int .i64 v.f1, .string v.f2]) rfl h rfl rfl zq34 (Reps.snoc (ps := []) (p := v) (Reps.none (kV.K W1) kV.sz) (k65_mk W1 v) rfl)
 have hC : Kd.C kE W1 (some ⟨w.heap.size + 1 + 1 + 1, 0, none⟩) 3 [e1, e2, e3] :=
  C_lit (d := kE) (ps := [] ++ [e1] ++ [e2] ++ [e3]) (inner := [] ++ [.slice (some ⟨w.heap.size, 0, none⟩) 1 1, .int .i64 2, .int .i64 1] ++ [.slice (some ⟨w.heap.size + 1, 0, none⟩) 1 1, .int .i64 5, .int .i64 (-1)] ++ [.slice (some ⟨w.heap.size + 1 + 1, 0, none⟩) 1 1, .int .i64 5, .int .i64 1]) rfl k3 rfl rfl zq34
   ((((Reps.none (kE.K W1) kE.sz).snoc (p := e1) (k41_mk W1 e1 (Nat.le_refl 1) (r1 _ v1 k0)) rfl).snoc (p := e2) (k41_mk W1 e2 (Nat.le_refl 1) (r1 _ v1 k1)) rfl).snoc (p := e3) (k41_mk W1 e3 (Nat.le_refl 1) (r1 _ v2 k2)) rfl)
 have hX : Kd.C kO W1 (some ⟨w.heap.size + 1 + 1 + 1 + 1, 0, none⟩) 3 lxw :=
  C_lit (d := kO) (ps := [] ++ [(⟨3, 0, ⟨#[]⟩⟩ : Op8)] ++ [⟨1, 2, ⟨#[]⟩⟩] ++ [⟨13, 0, ⟨#[]⟩⟩]) (inner := [] ++ [.int .i64 3, .int .i64 0, .string ⟨#[]⟩] ++ [.int .i64 1, .int .i64 2, .string ⟨#[]⟩] ++ [.int .i64 13, .int .i64 0, .string ⟨#[]⟩]) rfl k4 rfl rfl zq34
   ((((Reps.none (kO.K W1) kO.sz).snoc (p := ⟨3, 0, ⟨#[]⟩⟩) (k68_mk W1 _) rfl).snoc (p := ⟨1, 2, ⟨#[]⟩⟩) (k68_mk W1 _) rfl).snoc (p := ⟨13, 0, ⟨#[]⟩⟩) (k68_mk W1 _) rfl)
 have HC := Lib.hid hC; have HB1 := Lib.hid hbW1; have FC := Lib.hid (PDd.linear_Filter.calls (some ⟨w.heap.size + 1 + 1 + 1, 0, none⟩) 3 [e1, e2, e3] (some ⟨w.heap.size + 1 + 1 + 1 + 1, 0, none⟩) 3 lxw [e3] 0 W1 hC (Nat.le_refl 3) hX (Nat.le_refl 3) fA); clear hC hX r1 k0 k1 k2 k3 k4 hW1 hsW1 hbW1; refine FC.out.mono ?_; rintro e w2 ⟨va, rfl, hRa, hb2⟩; obtain ⟨Aa, ca, rfl⟩ := Kd.R_slice hRa; have HRA := Lib.hid hRa; have HB2 := Lib.hid (HB1.out.trans (hb2.mono HB1.out.size)); have HC2 := Lib.hid (Kd.C_below HC.out hb2); clear hRa hb2
 go_wp2_with (go_at_call 21; refine hold_intro ?_)
 refine ⟨?_⟩; obtain ⟨W3, hW3⟩ : ∃ W3, (w2.alloc (.cells #[.int .i64 1, .int .i64 7, .string ⟨#[]⟩] 68 (0, 0))).alloc (.cells #[.slice (some ⟨w2.heap.size, 0, none⟩) 1 1] 24 (0, 0)) = W3 := ⟨_, rfl⟩
 have hsW3 : W3.heap.size = w2.heap.size + 2 := by rw [← hW3]; simp
 have hbW3 : Below w2.heap.size w2 W3 := by rw [← hW3]; exact below_alloc (below_alloc (Below.refl _ w2) _) _
 have k5 : W3.heap[w2.heap.size]? = some (.cells #[.int .i64 1, .int .i64 7, .string ⟨#[]⟩] 68 (0, 0)) := by
  have h1 := blk_new (w2) (.cells #[.int .i64 1, .int .i64 7, .string ⟨#[]⟩] 68 (0, 0)); rw [← hW3]; exact blk_alloc (h1) _
 have k6 : W3.heap[w2.heap.size + 1]? = some (.cells #[.slice (some ⟨w2.heap.size, 0, none⟩) 1 1] 24 (0, 0)) := by
  have h1 := blk_new (w2.alloc (.cells #[.int .i64 1, .int .i64 7, .string ⟨#[]⟩] 68 (0, 0))) (.cells #[.slice (some ⟨w2.heap.size, 0, none⟩) 1 1] 24 (0, 0)); rw [World.size_alloc] at h1; rw [← hW3]; exact h1
 rw [hW3]; have hY : Kd.C kO W3 (some ⟨w2.heap.size, 0, none⟩) 1 pxw :=
  C_lit (d := kO) (ps := [] ++ [(⟨1, 7, ⟨#[]⟩⟩ : Op8)]) (inner := [] ++ [.int .i64 1, .int .i64 7, .string ⟨#[]⟩]) rfl k5 rfl rfl zq34
   ((Reps.none (kO.K W3) kO.sz).snoc (p := ⟨1, 7, ⟨#[]⟩⟩) (k68_mk W3 _) rfl)
 have hZ : Kd.C (Kd.slice 68 kO) W3 (some ⟨w2.heap.size + 1, 0, none⟩) 1 [pxw] :=
  C_lit (d := Kd.slice 68 kO) (ps := [] ++ [pxw]) (inner := [] ++ [.slice (some ⟨w2.heap.size, 0, none⟩) 1 1]) rfl k6 rfl rfl zq34
   ((Reps.none ((Kd.slice 68 kO).K W3) (Kd.slice 68 kO).sz).snoc (p := pxw) (show (Kd.slice 68 kO).K W3 pxw [.slice (some ⟨w2.heap.size, 0, none⟩) 1 1] from ⟨_, _, rfl, Nat.le_refl _, hY⟩) rfl)
 have HB3 := Lib.hid (HB2.out.trans (hbW3.mono HB2.out.size)); have HC3 := Lib.hid (Kd.C_below HC2.out hbW3); have HRA3 := Lib.hid (Kd.R_below HRA.out hbW3); have GC := Lib.hid (PDd.linear_Project.calls (some ⟨w.heap.size + 1 + 1 + 1, 0, none⟩) 3 [e1, e2, e3] (some ⟨w2.heap.size + 1, 0, none⟩) 1 [pxw] [⟨[⟨1, 7, ⟨#[]⟩⟩], 2, 1⟩] 0 W3 HC3.out (Nat.le_refl 3) hZ (Nat.le_refl 1) fB); clear hY hZ k5 k6 hW3 hsW3 hbW3 FC HC HC2 HRA HB1 HB2; refine GC.out.mono ?_; rintro e w4 ⟨vb, rfl, hRb, hb4⟩; obtain ⟨Ab, cb, rfl⟩ := Kd.R_slice hRb; have HRB := Lib.hid hRb; have HB4 := Lib.hid (HB3.out.trans (hb4.mono HB3.out.size)); have HC4 := Lib.hid (Kd.C_below HC3.out hb4); have HRA4 := Lib.hid (Kd.R_below HRA3.out hb4); clear hRb hb4 GC HB3 HC3 HRA3; have hrb := (Kd.R_reads' HRB.out).2.2; obtain ⟨ad, Ay, cy, ea, y0, y1, y2, y3, y4⟩ := at_T41 hrb (0 : Int) zq34 zq30; cases ea; have Y1 : w4.cell? ⟨ad.block, ad.off + 1, none⟩ = some (.int .i64 2) := by simpa [Addr.add, rd_T41] using y1
 have Y2 : w4.cell? ⟨ad.block, ad.off + 2, none⟩ = some (.int .i64 1) := by simpa [Addr.add, rd_T41] using y2
 have HY1 := Lib.hid Y1; have HY2 := Lib.hid Y2; clear y0 y1 y2 y3 y4 hrb Y1 Y2; obtain ⟨i0, hi0, p1, hsz0, p2⟩ := info_parts info41; have hcut0 := cut_from (P := Tryz.prog) 22 41 .i64 Tryz.underlying22 hi0 3 hsz0 (some ⟨w.heap.size + 1 + 1 + 1, 0, none⟩) 3 3 2 zq34 zq34; have hdr := Kd.C_drop (c := 3) (m := 2) HC4.out zq34 zq34; obtain ⟨A5, hA5⟩ : ∃ A1, A1 = (if 3 = 2 then (some ⟨w.heap.size + 1 + 1 + 1, 0, none⟩ : Option Addr) else (some (⟨w.heap.size + 1 + 1 + 1, 0, none⟩ : Addr)).map (·.add (2 * 3))) := ⟨_, rfl⟩
 have hcut : ∀ W : World, (Instr.slice 22 (.slice (some ⟨w.heap.size + 1 + 1 + 1, 0, none⟩) 3 3) (some (.int .i64 2)) none none).run Tryz.prog W = .ok (.slice A5 1 1) W := by
  intro W; rw [hA5]; exact hcut0 W
 have hC5 : Kd.C kE w4 A5 1 [e3] := by
  rw [hA5]; exact hdr
 have SC := Lib.hid (hsame_calls Aa A5 ca 1 [e3] w4 (Kd.R_reads' HRA4.out).2.2 (Kd.R_reads' HRA4.out).2.1 hC5 (Nat.le_refl 1) zq34 zq34); clear hcut0 hdr hA5 hC5 hi0 hsz0 p1 p2 i0
 go_wp2_with (go_at_call 20; refine hold_intro ?_)
 refine ⟨?_⟩; refine SC.out.mono ?_; rintro e w5 ⟨rfl, hb5⟩; have HB5 := Lib.hid (HB4.out.trans (hb5.mono HB4.out.size)); have z1 := pw_cell_below hb5 HY1.out; have z2 := pw_cell_below hb5 HY2.out; clear SC HB4 HRA4 HC4 HRB HY1 HY2 hb5; go_wp2; go_ret; exact ⟨rfl, HB5.out⟩
end Go.Proofs.YtmkgecapkeojaaaGreat.Eg
end
section
namespace Go.Proofs.YtmkgecapkeojaaaGreat.Eg
open Go.Proofs.YtmkgecapkeojaaaGreat Go.Proofs.YtmkgecapkeojaaaGreat.PDa
open Go.RowKit Go.Proofs.YtmkgecapkeojaaaGreatW.PrintWords Go.Proofs.YtmkgecapkeojaaaGreatW.PrintLast Go.Proofs.YtmkgecapkeojaaaGreatW.PrintMore
open Go.Proofs.YtmkgecapkeojaaaGreat.Run Go.Proofs.YtmkgecapkeojaaaGreat.Rw
def rput.T4 : Bool × List (List Nat × List Nat) := (true, [([], []), ([], []), ([], []), ([1, 2], [1, 2]), ([], []), ([], []), ([4, 5], [4, 5]), ([6], [6]), ([7], [7]), ([], []), ([], []), ([9, 10], [9, 10]), ([11], [11]), ([12], [12]), ([3, 8, 13], [3, 8, 13]), ([14], [14]), ([0, 15, 3], [0, 15]), ([16, 16, 0, 1, 2, 3, 4, 5, 6, 7, 8, 9, 10, 11, 12, 13, 14, 15, 16], [0, 16])])
def rput.B4 : List Nat := [0, 0, 0, 6, 0, 0, 48, 112, 240, 0, 0, 1536, 3584, 7680, 16382, 32766, 65535, 131071]
theorem rput.tab4 : rtab .any (opsOf Tryz.f68 4) = rput.T4 := by kernel_rfl
theorem rput.bits4 : waitsOk rput.T4.2 rput.B4 = true := by kernel_rfl
theorem refput_calls (base : Nat) (ok : Nat → Prop) (v : Value) (l : List S41) (A1 : Option Addr) (c1 : Nat) (r : List S65) (A2 : Option Addr) (c2 : Nat) (f : List S85) (w : World)
  (hR : Kd.R kE tE w base ok v l) (hbase : base ≤ w.heap.size) (hfresh : ∀ k, w.heap.size ≤ k → ok k) (okr : Nat → Prop) (hr : ∀ w2 : World, (∀ k, okr k → w2.heap[k]? = w.heap[k]?) → Kd.C kV w2 A1 r.length r) (hrd : ∀ k, okr k → k < w.heap.size ∧ some k ≠ v.ownBlock) (hf : Kd.R kJp tJ w 0 (fun _ => True) (.slice A2 f.length c2) f)
  (hrl : r.length ≤ 4398046511104) (hl : l.length + f.length ≤ 1099511627776) :
  Calls Tryz.prog 68 #[v, .slice A1 r.length c1, .slice A2 f.length c2] w fun e w' => ∃ v1, e = .returned v1 ∧ Kd.R kE tE w' base ok v1 (putP l r f) ∧ w.grownBy w' v.ownBlock ∧ (v1.ownBlock = v.ownBlock ∨ ∃ b, v1.ownBlock = some b ∧ w.heap.size ≤ b) := by
 have hu := Tryz.underlying41; have hu39 : Tryz.prog.underlying 39 = some (.slice 65) := by kernel_rfl
 have hu22 : Tryz.prog.underlying 22 = some (.slice 41) := by kernel_rfl
 have HR := Lib.hid hR; have HRr := Lib.hid hr; have HRD := Lib.hid hrd; have HRf := Lib.hid hf; have HFR := Lib.hid hfresh; have HB0 := Lib.hid hbase; have HL := Lib.hid hl; have HRL := Lib.hid hrl; clear hR hr hrd hf hfresh hbase hl hrl; go_enter Tryz.func68, Tryz.ntmps68; go_wp2
 go_loopw [0, 7] (fun v0 v11 wr => ∃ (i : Nat), i ≤ f.length ∧ v11 = .int .i64 (i : Int) ∧ Aside0 (Kd.R kE tE wr base ok v0 (putP l r (f.take i))) ∧ Aside0 (w.grownBy wr v.ownBlock) ∧ Aside0 (v0.ownBlock = v.ownBlock ∨ ∃ b, v0.ownBlock = some b ∧ w.heap.size ≤ b) ∧ Aside0 (Kd.R kJp tJ wr 0 (fun _ => True) (.slice A2 f.length c2) f)) (fun v0 v11 wr => f.length - (intOf v11).toNat)
 case atStart => exact ⟨0, Nat.zero_le _, rfl, ⟨by simpa [putP] using HR.out⟩, ⟨World.grownBy.refl w _⟩, ⟨.inl rfl⟩, ⟨HRf.out⟩⟩
 case round =>
  obtain ⟨i, hi, rfl, HO, HG, HAT, HRf1⟩ := hrel
  by_cases c : i < f.length
  ·obtain ⟨Y, hYj⟩ : ∃ Y, f[i] = Y := ⟨_, rfl⟩
   obtain ⟨ad, e1, x0, x1⟩ := at_T85 (Kd.R_reads' HRf1.out).2.2 (i : Int) zq4 zq4; have hrd : rd_T85 f (i : Int) = Y := by
    unfold rd_T85; rw [Int.toNat_natCast, List.getD_eq_getElem?_getD, List.getElem?_eq_getElem c]; exact hYj
   rw [Int.toNat_natCast, hrd] at x0 x1; clear hrd; cases e1; have HYj := Lib.hid hYj; clear hYj; have hll : f.length ≤ 1099511627776 := by have := HL.out; omega
   have pI : (0 ≤ (i : Int)) = True := eq_true zq4; have qI : ((i : Int) < (f.length : Int)) = True := eq_true zq4; go_wp2; obtain ⟨wA, hwA⟩ : ∃ x, x = wr := ⟨_, rfl⟩
   have b0 : wA.drew.cell? (ad.add (i * 2)) = some (.int .i64 Y.f0) := by rw [hwA]; exact x0
   have b1 : wA.drew.cell? ⟨(ad.add (i * 2)).block, (ad.add (i * 2)).off + 1, none⟩ = some (.int .i64 Y.f1) := by rw [hwA]; exact x1
   have HBA := Lib.hid (show Below wr.heap.size wr wA.drew by rw [hwA]; exact below_drew1 (Below.refl _ wr)); have HSA := Lib.hid (show wA.drew.heap.size = wr.heap.size by rw [hwA]; rfl); rw [← hwA]; clear hwA x0 x1; have HOA := Lib.hid (Kd.R_below HO.out HBA.out); have HGA := Lib.hid (grown_trans HG.out HAT.out (grown_below HBA.out)); have HRrA := Lib.hid (HRr.out wA.drew (fun k hk => HGA.out.block k (HRD.out k hk).1 (HRD.out k hk).2)); have HRfA := Lib.hid (Kd.R_below HRf1.out HBA.out); have HOW := Lib.hid (fun k (h : u0.ownBlock = some k) => own_ltR HO.out h); clear HO HG HRf1; refine start_ (n := 18) (S := fun w' => w'.cell? (ad.add (i * 2)) = some (.int .i64 Y.f0) ∧ w'.cell? ⟨(ad.add (i * 2)).block, (ad.add (i * 2)).off + 1, none⟩ = some (.int .i64 Y.f1)) (ds := [15, 16]) #[false, false, false, false, false, false, false, false, false, false, false, false, false, false, false, false, false, false] zq17 rfl rfl ⟨b0, b1⟩ (fun hHeld => ?_); refine with_tabW rput.tab4 rput.bits4 (fun HT_ HW_ => ?_); refine pZ 0 14 ?_; refine pZ 2 16 ?_; refine pZ 4 18 ?_; refine pZ 5 19 ?_; refine pZ 6 20 ?_; refine pZ 7 21 ?_; refine pZ 9 23 ?_; refine pZ 10 24 ?_; refine pZ 11 25 ?_; refine pZ 12 26 ?_; refine tZ2 8 22 ?_; refine tZ2 13 27 ?_; refine oZ 1 15 (fun K hK => ?_); refine Kd.R_lit_step kV _ tV ?hg (N := 15) ?hd (xs := ([] : List Vl)) (inner := []) (ok := fun _ => True) (okp := fun _ => True) ?hr ?hp (fun _ hk => hk) trivial (Below.refl _ _) (Nat.le_refl _) zq30 ?_
   case hd => rfl
   case hg => rfl
   case hr => first | (go_simp; done) | (go_simp; rfl)
   case hp => exact Reps.none _ _
   intro vl w3 hRl hbl hgl hnl; obtain ⟨Al, cl, rfl⟩ := Kd.R_slice hRl; have HRL3 := Lib.hid hRl; have HBL3 := Lib.hid hbl; clear hRl hbl hgl hnl; refine hK.out _ _ ⟨pw_cell_below HBL3.out b0, pw_cell_below HBL3.out b1⟩ (fun hHeld => ?_); clear hK K; refine nZ 15 ?_; refine oZ 3 17 (fun K hK => ?_); refine Kd.R_append_rows_step kV (w0 := wA.drew) wA.drew.heap.size (by rfl) (.tmp 15) (.tmp 16) 39 65 (.agg #[(.int .i64 0), (.int .i64 0), (.string ⟨#[]⟩)]) 32 rfl hu39 info65 rfl zq34 zq4 (.slice Al ([] : List Vl).length cl) [] r _ _ _ (fun _ => True) (fun _ => False) rfl rfl HRL3.out (Kd.C_below HRrA.out HBL3.out) (fun _ _ h => h) (fun _ h => h.elim) (fun _ _ => trivial) HBL3.out HBL3.out.size ?aL ?_
   case aL => have := HRL.out; simp only [List.length_nil, Nat.zero_add]; omega
   intro vc w4 hRc hbc hgc hatc; obtain ⟨Ac, cc, rfl⟩ := Kd.R_slice hRc; have HRC := Lib.hid (show Kd.R kV tV w4 wA.drew.heap.size (fun _ => True) (.slice Ac r.length cc) r from hRc); have HBC := Lib.hid hbc; clear hRc hbc hgc hatc; refine hK.out _ _ ⟨pw_cell_below HBC.out b0, pw_cell_below HBC.out b1⟩ (fun hHeld => ?_); clear hK K; refine nZ 17 ?_; refine pZ 14 28 ?_; refine last_ (i := 15) (N := some 29) #[true, true, true, true, true, true, true, true, true, true, true, true, true, true, true, true, false, false] rfl rfl (one_of HT_.out zq17) zq34 (fun K hK => ?_); refine value_ (w1 := ?_) (v := ?_) (by rfl) rfl ?_ ?_; rotate_left 2
   ·go_simp
    constructor
    ·rfl
    ·rfl
   refine hK.out _ _ ?_; clear hK K; refine nZ 29 ?_; refine last_ (i := 16) (N := some 30) #[true, true, true, true, true, true, true, true, true, true, true, true, true, true, true, true, true, false] rfl rfl (one_of HT_.out zq17) zq34 (fun K hK => ?_); refine Kd.R_append_step kE (w0 := w4) base (by rfl) (.tmp 14) (.tmp 29) 22 41 (.agg #[.slice none 0 0, (.int .i64 0), (.int .i64 0)]) 40 rfl hu22 info41 rfl zq34 zq4 u0 (putP l r (f.take i)) ⟨r, Y.f0, Y.f1⟩ [.slice Ac r.length cc, .int .i64 Y.f0, .int .i64 Y.f1] ok (fun k => wA.drew.heap.size ≤ k) rfl rfl ?aP ?aK ?aF ?aO (Below.refl _ _) ?aS ?aL ?_
   case aP => exact k41_mkM _ _ _ ⟨r, Y.f0, Y.f1⟩ (Kd.R_mono (Kd.R_lower (Kd.R_bound HRC.out) (by have := HB0.out; have := HGA.out.size; omega)) (fun _ h => h.2.1))
   case aK => exact fun k hk => ⟨HFR.out k (by have := HGA.out.size; omega), fun e' => by have := (HOW.out k e'.symm).2; have := HSA.out; omega⟩
   case aF => exact fun k hk => HFR.out k (by have := HGA.out.size; have := HBC.out.size; omega)
   case aO => exact Kd.R_below HOA.out HBC.out
   case aS => have := HB0.out; have := HGA.out.size; have := HBC.out.size; omega
   case aL => have := HL.out; rw [putP, List.length_append, List.length_map, List.length_take]; omega
   intro v1 w1 ho hb hg hat; have HO1 := Lib.hid ho; have HG1 := Lib.hid hg; have HAT1 := Lib.hid hat; clear ho hb hg hat; refine hK.out _ _ ?_; clear hK K; refine nZ 30 ?_; refine pZ 17 0 ?_; refine done_ (done_of HT_.out zq17) ?_; go_wp2; go_roundw
   case rel =>
    refine ⟨i + 1, by omega, by go_num, ⟨?_⟩, ⟨?_⟩, ⟨?_⟩, ⟨?_⟩⟩
    ·have := HO1.out
     rw [show putP l r (f.take (i + 1)) = putP l r (f.take i) ++ [⟨r, Y.f0, Y.f1⟩] by unfold putP; rw [List.take_add_one, List.getElem?_eq_getElem c, HYj.out]; simp]; exact this
    ·exact grown_trans HGA.out HAT.out (grown_step HBC.out HG1.out)
    ·exact own_at_trans HAT.out (HGA.out.size) HBC.out.size HAT1.out
    ·exact R_grown (Kd.R_below HRfA.out HBC.out) (Kd.R_below HOA.out HBC.out) zq34 HG1.out
   case measure => simp [intOf]; omega
  ·obtain rfl : i = f.length := by omega
   go_wp2; go_ret; refine ⟨_, rfl, ?_, HG.out, HAT.out⟩; have := HO.out; rw [List.take_length] at this; exact this
end Go.Proofs.YtmkgecapkeojaaaGreat.Eg
end
section
namespace Go.Proofs.YtmkgecapkeojaaaGreat.Eg
open Go.Proofs.YtmkgecapkeojaaaGreat Go.Proofs.YtmkgecapkeojaaaGreat.PDa
open Go.RowKit Go.Proofs.YtmkgecapkeojaaaGreatW.PrintWords Go.Proofs.YtmkgecapkeojaaaGreatW.PrintLast Go.Proofs.YtmkgecapkeojaaaGreatW.PrintMore
open Go.Proofs.YtmkgecapkeojaaaGreat.Stp Go.Proofs.YtmkgecapkeojaaaGreat.Rw Go.Proofs.YtmkgecapkeojaaaGreat.SortM
structure Hold3 (p : Prop) : Prop where
 out : p
theorem hold3 {p : Prop} (h : Hold3 p) : p := h.out
def kHd {α : Type} (e : Nat) (d : Kd α) (W0 : World) : Kd (List α) where
 sz := 1
 E := []
 K := fun _ x cs => (Kd.slice e d).K W0 x cs
 M := fun _ _ _ x cs => (Kd.slice e d).K W0 x cs
 K_len := fun h => (Kd.slice e d).K_len h
 K_one := fun h => (Kd.slice e d).K_one h
 K_below := fun _ h => h
 K_of_M := fun h => h
 M_mono := fun _ h => h
 M_bound := fun h => h
 M_move := fun _ h => h
 M_lower := fun _ h => h
abbrev kH (W0 : World) : Kd (List Vl) := kHd tV kV W0
theorem kH_C {W0 W : World} {A : Option Addr} {n : Nat} {xs : List (List Vl)} (hb : Below W0.heap.size W0 W) (h : (kH W0).C W A n xs) : Kd.C (Kd.slice tV kV) W A n xs := ReadsRow.imp_ h (Below.refl _ _) (fun _ _ hp => (Kd.slice tV kV).K_below hb hp)
theorem at_H {W0 W : World} {A : Option Addr} {n : Nat} {xs : List (List Vl)} (h : (kH W0).C W A n xs) (i : Nat) (r : List Vl) (hi : xs[i]? = some r) : ∃ ad Ax cx, A = some ad ∧ W.cell? (ad.add i) = some (.slice Ax r.length cx) ∧ r.length ≤ cx ∧ Kd.C kV W0 Ax r.length r := by
 have hl := (List.getElem?_eq_some_iff.1 hi).1; obtain ⟨ad, c, hA, _, hK, hc⟩ := Kd.C_get h ([] : List Vl) (i : Int) zq4 (by have := h.1; omega); rw [Int.toNat_natCast] at hK hc; rw [List.getD_eq_getElem?_getD, hi, Option.getD_some] at hK; obtain ⟨Ax, cx, rfl, hx, hC⟩ := hK; have h0 := hc 0 _ rfl; rw [show i * (kH W0).sz + 0 = i from Nat.mul_one i] at h0; exact ⟨ad, Ax, cx, hA, h0, hx, hC⟩
abbrev tR : Nat := 39
abbrev tRs : Nat := 93
abbrev insR (l : List EdP) : List (List Vl) := l.foldl (fun a e => rowIns e.f0 a) []
theorem insR_eq (l : List EdP) : insR l = rowsOf l := by
 obtain ⟨h1, h2⟩ := fold_rows l [] List.Pairwise.nil; refine inc_uniq _ _ h1 (rowsOf_inc l) (fun z => ?_); rw [h2, rowsOf_mem]; simp
theorem insR_len (l : List EdP) : (insR l).length ≤ l.length := by
 rw [insR_eq]; unfold rowsOf
 induction l with
 | nil => simp
 | cons e es ih =>
  rw [List.map_cons, List.foldr_cons]; have := rowIns_len e.f0 ((es.map (·.f0)).foldr rowIns []); simp only [List.length_cons]; omega
theorem hrows_calls (A0 : Option Addr) (c0 : Nat) (l : List EdP) (W0 w : World) (hr0 : Kd.C kE W0 A0 l.length l) (hW : Below W0.heap.size W0 w) (hl : l.length ≤ 1000000) (hmay : ∀ e ∈ l, rowMay e.f0 = true) :
  Calls Tryz.prog 66 #[.slice A0 l.length c0] w fun e w' => ∃ v, e = .returned v ∧ (kH W0).R 39 w' w.heap.size (fun _ => True) v (rowsOf l) ∧ Below w.heap.size w w' := by
 have hu := Tryz.underlying93; have HR := Lib.hid hr0; have HW := Lib.hid hW; have HM := Lib.hid hmay; have HL := Lib.hid hl; clear hr0 hW hmay hl; go_enter Tryz.func66, Tryz.ntmps66
 go_wp2_with (first | ((with_reducible refine gate_dst (N := 7) rfl ?_); refine Kd.R_lit (kH W0) _ 39 ?hg (N := 7) ?hd (xs := ([] : List (List Vl))) (inner := []) (ok := fun _ => True) (okp := fun _ => True) ?hr ?hp (fun _ hk => hk) trivial (Below.refl _ _) (Nat.le_refl _) zq30 ?_; (case hd => rfl); (case hg => rfl); (case hr => first | (go_simp; done) | (go_simp; rfl)); (case hp => exact (Reps.none _ _)); intro v7 w1 ho1 hb1 hg_ hnew_; have HO1 := Lib.hid ho1; have HB1 := Lib.hid hb1; clear hg_ hnew_ hb1 ho1))
 go_loopw [3, 4] (fun v3 v4 wr => ∃ (i : Nat) (A3 : Option Addr) (c3 : Nat), i ≤ l.length ∧ v4 = .int .i64 (i : Int) ∧ v3 = .slice A3 (insR (l.take i)).length c3 ∧ Aside0 ((kH W0).R 39 wr w.heap.size (fun _ => True) (.slice A3 (insR (l.take i)).length c3) (insR (l.take i))) ∧ Aside0 (Below w.heap.size w wr)) (fun v3 v4 wr => l.length - (intOf v4).toNat)
 case atStart =>
  obtain ⟨A3, c3, rfl⟩ := Kd.R_slice HO1.out; exact ⟨0, A3, c3, Nat.zero_le _, rfl, rfl, ⟨HO1.out⟩, ⟨HB1.out⟩⟩
 case round =>
  clear HO1 HB1; obtain ⟨i, A3, c3, hi, rfl, rfl, HO, HB⟩ := hrel; have hll := HL.out
  by_cases c : i < l.length
  ·obtain ⟨X, hX⟩ : ∃ X, l[i] = X := ⟨_, rfl⟩
   obtain ⟨RS, hRS⟩ : ∃ z, insR (l.take i) = z := ⟨_, rfl⟩
   have HNX := Lib.hid (show insR (l.take (i + 1)) = rowIns X.f0 RS by
    unfold insR at hRS ⊢; rw [List.take_add_one, List.getElem?_eq_getElem c, hX, Option.toList_some, List.foldl_append, hRS]; rfl)
   have hrl : RS.length ≤ l.length := by
    have h1 := insR_len (l.take i); rw [hRS, List.length_take] at h1; omega
   have HRM := Lib.hid (show ∀ r ∈ RS, rowMay r = true by
    intro r hr; rw [← hRS, insR_eq, rowsOf_mem] at hr; obtain ⟨e, he, rfl⟩ := hr; exact HM.out e (List.mem_of_mem_take he))
   have HXM := Lib.hid (HM.out X (by rw [← hX]; exact List.getElem_mem c)); rw [hRS] at HO ⊢; obtain ⟨ad, Ax, cx, e1, x0, x1, x2, x3, x4⟩ := at_T41 (Kd.C_below HR.out (HW.out.trans (HB.out.mono HW.out.size))) (i : Int) zq4 zq4; rw [Int.toNat_natCast, rdE l i c, hX] at x0; rw [rdE l i c, hX] at x3 x4; cases e1; have HX0 := Lib.hid x0; have HXK := Lib.hid (show (Kd.slice tV kV).K W0 X.f0 [.slice Ax X.f0.length cx] by
    obtain ⟨ad', Ax', cx', e1', y0, y1, y2, y3, y4⟩ := at_T41 HR.out (i : Int) zq4 zq4; rw [Int.toNat_natCast, rdE l i c, hX] at y0; rw [rdE l i c, hX] at y3 y4; cases e1'; have h5 := pw_cell_below (HW.out.trans (HB.out.mono HW.out.size)) y0; rw [h5] at x0; injection x0 with x0
    injection x0 with q1 q2 q3
    subst q1 q3; exact ⟨_, _, rfl, y3, y4⟩)
   have HXC := Lib.hid x4; have hxl := x3; obtain ⟨i0, hi0, _, hsz0, _⟩ := info_parts info39; have hlc := (Kd.R_reads' HO.out).2.1; have HCT := Lib.hid (fun (j : Nat) (hj : j ≤ RS.length) => show ∀ W : World, (Instr.slice tRs (.slice A3 RS.length c3) none (some (.int .i64 (j : Int))) none).run Tryz.prog W = .ok (.slice A3 j c3) W from
    cut_to (P := Tryz.prog) tRs tR .i64 hu hi0 A3 RS.length c3 (j : Int) zq4 zq4 hlc)
   obtain ⟨CF, hCF⟩ : ∃ f : Nat → Option Addr, f = fun j => if c3 = j then A3 else A3.map (·.add (j * 1)) := ⟨_, rfl⟩
   have HCF := Lib.hid (fun (j : Nat) (hj : j ≤ RS.length) => show ∀ W : World, (Instr.slice tRs (.slice A3 RS.length c3) (some (.int .i64 (j : Int))) none none).run Tryz.prog W = .ok (.slice (CF j) (RS.length - j) (c3 - j)) W by
    have h := cut_from (P := Tryz.prog) tRs tR .i64 hu hi0 1 hsz0 A3 RS.length c3 (j : Int) zq4 zq4; rw [hCF]; exact h)
   have HDR := Lib.hid (fun (j : Nat) (hj : j ≤ RS.length) (W : World) (h : (kH W0).C W A3 RS.length RS) => show (kH W0).C W (CF j) (RS.length - j) (RS.drop j) by
    rw [hCF, ← List.length_drop]; exact Kd.C_drop h hj hlc)
   clear x0 x1 x2 x3 x4 hX hRS hCF hi0 hsz0; obtain ⟨wo, hwo⟩ : ∃ x, x = wr := ⟨_, rfl⟩
   subst hwo; go_wp2
   go_loopw [5] (fun v5 wr => ∃ (j : Nat), j ≤ RS.length ∧ v5 = .int .i64 (j : Int) ∧ Aside0 (∀ x ∈ RS.take j, rC x X.f0 < 0) ∧ Aside0 (Below wo.heap.size wo wr)) (fun v5 wr => RS.length - (intOf v5).toNat)
   case atStart => exact ⟨0, Nat.zero_le _, rfl, ⟨by simp⟩, ⟨Below.refl _ _⟩⟩
   case round =>
    obtain ⟨j, hj, rfl, HLOW, HBI⟩ := hrel; have HT := Lib.hid (rowIns_take X.f0 j RS HLOW.out); have HXi := Lib.hid (pw_cell_below HBI.out HX0.out)
    by_cases cj : j < RS.length
    ·obtain ⟨Y, hY⟩ : ∃ Y, RS[j] = Y := ⟨_, rfl⟩
     obtain ⟨a3, Ay, cy, e3, y0, y1, y2⟩ := at_L3 (kH_C (HW.out.trans ((HB.out.trans (HBI.out.mono HB.out.size)).mono HW.out.size)) (Kd.R_reads' (Kd.R_below HO.out HBI.out)).2.2) (j : Int) zq4 zq4; rw [rdR RS j cj, hY] at y0 y1 y2; rw [Int.toNat_natCast] at y0; cases e3; have hd : RS.drop j = Y :: RS.drop (j + 1) := by rw [List.drop_eq_getElem_cons cj, hY]
     have hjm := HRM.out Y (by rw [← hY]; exact List.getElem_mem cj); have hcr := cmpR_rC hjm HXM.out; have HTJ := Lib.hid (show RS.take (j + 1) = RS.take j ++ [Y] by rw [List.take_add_one, List.getElem?_eq_getElem cj, hY]; rfl); obtain ⟨kc, hkc⟩ := (ref06 Y X.f0).get; obtain ⟨ks, hks⟩ := (same06 Y X.f0 (by have := may_len hjm; omega)).get; have xC := Kd.C_below HXC.out HBI.out; have x0' := fun p => BelowOf.cell HXi.out p
     have y0' := fun p => BelowOf.cell y0 p
     have pj : decide ((j : Int) < (RS.length : Int)) = true := decide_eq_true zq4; have pJ : (0 ≤ (j : Int)) = True := eq_true zq4; have qJ : ((j : Int) < (RS.length : Int)) = True := eq_true zq4; have pI : (0 ≤ (i : Int)) = True := eq_true zq4; have qI : ((i : Int) < (l.length : Int)) = True := eq_true zq4; have CM := Lib.hid (fun (p : BelowOf wr) => r06_Compare.calls kc Ay cy Y Ax cx X.f0 _ p.W (Kd.C_below y2 p.h) y1 (Kd.C_below xC p.h) hxl hkc); have CS := Lib.hid (fun (W : World) (h : Below wr.heap.size wr W) => (r06_Same.calls ks Ay cy Y Ax cx X.f0 _ W (Kd.C_below y2 h) y1 (Kd.C_below xC h) hxl hks).mono fun e w' z => (show e = .returned (.bool (eqR Y X.f0)) ∧ Below W.heap.size W w' from ⟨z.1, z.2.below⟩)); rw [hcr] at CM; clear y2 y1 hkc hks xC hcr hY
     by_cases hc : rC Y X.f0 < 0
     ·have bc : decide (rC Y X.f0 < 0) = true := decide_eq_true hc
      go_wp2; refine wp_region_quiet_below zq17 zq17 ?_
      repeat (go_big_quiet_step (exact below_calls (CM.out _)))
      refine wpQuiet_nil ?_; intro wq hw1; have HBN := Lib.hid (show Below wo.heap.size wo wq by obtain ⟨p, rfl⟩ := hw1; exact HBI.out.trans (p.h.mono HBI.out.size)); clear hw1 x0' y0' y0 CM CS; go_wp2; go_roundw
      case rel =>
       refine ⟨j + 1, by omega, by go_num, ⟨fun x hx => ?_⟩, ⟨HBN.out⟩⟩; rw [HTJ.out, List.mem_append] at hx
       rcases hx with hx | hx
       ·exact HLOW.out x hx
       ·rw [List.mem_singleton] at hx; subst hx; exact hc
      case measure => simp [intOf]; omega
     ·have bc : decide (rC Y X.f0 < 0) = false := decide_eq_false hc
      have HNC := Lib.hid hc; have HD := Lib.hid hd; clear hc hd; go_wp2; refine wp_region_quiet_below zq17 zq17 ?_
      repeat (go_big_quiet_step (exact below_calls (CM.out _)))
      refine wpQuiet_nil ?_; intro wq hw1; have HBQ := Lib.hid (show Below wr.heap.size wr wq by obtain ⟨p, rfl⟩ := hw1; exact p.h); have CS2 := Lib.hid (fun (p : BelowOf wq) => CS.out p.W (HBQ.out.trans (p.h.mono HBQ.out.size))); have x1' := fun p => BelowOf.cell (pw_cell_below HBQ.out HXi.out) p
      have y1' := fun p => BelowOf.cell (pw_cell_below HBQ.out y0) p
      clear hw1 x0' y0' CM CS y0; cases hs : eqR Y X.f0
      ·rw [hs] at CS2
       have he : ¬ Y = X.f0 := fun e => by rw [(eqR_iff _ _).2 e] at hs; cases hs
       have HNEW := Lib.hid (show insR (l.take (i + 1)) = RS.take j ++ [X.f0] ++ RS.drop j by
        rw [HNX.out, HT.out, HD.out, rowIns, if_neg (by have := HNC.out; omega), if_neg he, List.append_assoc]; rfl)
       clear he hs; go_wp2; refine wp_region_quiet_below zq17 zq17 ?_
       repeat (go_big_quiet_step (exact below_calls (CS2.out _)))
       refine wpQuiet_nil ?_; intro wz hw2; have HBZ := Lib.hid (show Below wo.heap.size wo wz by obtain ⟨p, rfl⟩ := hw2; exact (HBI.out.trans (HBQ.out.mono HBI.out.size)).trans (p.h.mono (Nat.le_trans HBI.out.size HBQ.out.size))); clear hw2; have HXZ := Lib.hid (pw_cell_below HBZ.out HX0.out); have HOZ := Lib.hid (Kd.R_below HO.out HBZ.out); have hct := HCT.out j hj; have hcf := HCF.out j hj; have HDZ := Lib.hid (HDR.out j hj); obtain ⟨AF, hAF⟩ : ∃ z, CF j = z := ⟨_, rfl⟩
       rw [hAF] at hcf HDZ; clear hAF
       go_wp2_with (first
        | ((with_reducible refine gate_dst (N := 49) rfl ?_); refine Kd.R_lit (kH W0) _ tR ?hg (N := 49) ?hd (xs := ([] : List (List Vl))) (inner := []) (ok := fun _ => True) (okp := fun _ => True) ?hr ?hp (fun _ hk => hk) trivial (Below.refl _ _) (Nat.le_refl _) zq30 ?_; (case hd => rfl); (case hg => rfl); (case hr => first | (go_simp; done) | (go_simp; rfl)); (case hp => exact (Reps.none _ _)); intro v49 wa ho hb hg_ hnew_; have HOA := Lib.hid ho; have HBA := Lib.hid hb; clear ho hb hg_ hnew_)
        | ((with_reducible refine gate_dst (N := 53) rfl ?_); refine Kd.R_append_rows (kH W0) (w0 := wz) wz.heap.size rfl (.tmp 49) (.tmp 52) tRs tR (.slice none 0 0) 24 rfl hu info39 rfl Nat.one_pos zq4 v49 [] (RS.take j) _ _ _ (fun _ => True) (fun _ => False) rfl rfl HOA.out ?aR (fun _ _ h => h) (fun _ h => h.elim) (fun _ _ => trivial) HBA.out HBA.out.size ?aL ?_; (case aR => have h := Kd.C_take (Kd.R_reads' (Kd.R_below HOZ.out HBA.out)).2.2 hj; rw [List.length_take, Nat.min_eq_left hj] at h; exact h); (case aL => rw [List.length_nil]; omega); intro v53 wb ho hb hg_ hnew_; have HOB := Lib.hid (show (kH W0).R tR wb wz.heap.size (fun _ => True) v53 (RS.take j) from ho); have HBB := Lib.hid hb; have xb := pw_cell_below hb HXZ.out; clear ho hb hg_ hnew_)
        | ((with_reducible refine gate_dst (N := 61) rfl ?_); at_builtin; refine Kd.R_append (kH W0) (w0 := wz) wz.heap.size rfl (.tmp 54) (.tmp 60) tRs tR (.slice none 0 0) 24 rfl hu info39 rfl Nat.one_pos zq4 v53 (RS.take j) X.f0 [.slice Ax X.f0.length cx] (fun _ => True) (fun _ => False) rfl rfl HXK.out (fun _ h => h.elim) (fun _ _ => trivial) HOB.out HBB.out HBB.out.size ?aL ?_; (case aL => rw [List.length_take]; omega); intro v61 wc ho hb hg_ hnew_; have HOC := Lib.hid ho; have HBC := Lib.hid hb; clear ho hb hg_ hnew_)
        | ((with_reducible refine gate_dst (N := 66) rfl ?_); refine Kd.R_append_rows (kH W0) (w0 := wz) wz.heap.size rfl (.tmp 62) (.tmp 65) tRs tR (.slice none 0 0) 24 rfl hu info39 rfl Nat.one_pos zq4 v61 (RS.take j ++ [X.f0]) (RS.drop j) _ _ _ (fun _ => True) (fun _ => False) rfl rfl HOC.out ?aR (fun _ _ h => h) (fun _ h => h.elim) (fun _ _ => trivial) HBC.out HBC.out.size ?aL ?_; (case aR => exact HDZ.out wc (Kd.R_reads' (Kd.R_below HOZ.out HBC.out)).2.2); (case aL => rw [List.length_append, List.length_take, List.length_singleton]; omega); intro v66 wd ho hb hg_ hnew_; have HOD := Lib.hid ho; have HBD := Lib.hid hb; clear ho hb hg_ hnew_))
       obtain ⟨AD, cD, rfl⟩ := Kd.R_slice HOD.out; go_roundw
       case rel => exact ⟨i + 1, AD, cD, by omega, by go_num, by rw [HNEW.out], ⟨by rw [HNEW.out]; exact Kd.R_lower HOD.out (Nat.le_trans HB.out.size HBZ.out.size)⟩, ⟨(HB.out.trans (HBZ.out.mono HB.out.size)).trans (HBD.out.mono (Nat.le_trans HB.out.size HBZ.out.size))⟩⟩
       case measure => simp [intOf]; omega
      ·rw [hs] at CS2
       have he := (eqR_iff _ _).1 hs; have HNEW := Lib.hid (show insR (l.take (i + 1)) = RS by
        rw [HNX.out, HT.out, HD.out, rowIns, if_neg (by have := HNC.out; omega), if_pos he, ← HD.out, List.take_append_drop])
       clear he hs; go_wp2; refine wp_region_quiet_below zq17 zq17 ?_
       repeat (go_big_quiet_step (exact below_calls (CS2.out _)))
       refine wpQuiet_nil ?_; intro wz hw2; have HBZ := Lib.hid (show Below wo.heap.size wo wz by obtain ⟨p, rfl⟩ := hw2; exact (HBI.out.trans (HBQ.out.mono HBI.out.size)).trans (p.h.mono (Nat.le_trans HBI.out.size HBQ.out.size))); clear hw2 x1' y1' CS2; go_wp2; go_roundw
       case rel => exact ⟨i + 1, _, _, by omega, by go_num, by rw [HNEW.out], ⟨by rw [HNEW.out]; exact Kd.R_below HO.out HBZ.out⟩, ⟨HB.out.trans (HBZ.out.mono HB.out.size)⟩⟩
       case measure => simp [intOf]; omega
    ·have pj : decide ((j : Int) < (RS.length : Int)) = false := decide_eq_false zq4
     have HNEW := Lib.hid (show insR (l.take (i + 1)) = RS.take j ++ [X.f0] ++ RS.drop j by
      rw [HNX.out, HT.out, List.drop_eq_nil_of_le zq4, rowIns, List.append_nil])
     go_wp2; refine wp_region_quiet_below zq17 zq17 ?_
     repeat (go_big_quiet_step (fail))
     refine wpQuiet_nil ?_; intro wq hw1; have HBQ := Lib.hid (show Below wr.heap.size wr wq by obtain ⟨p, rfl⟩ := hw1; exact p.h); clear hw1; go_wp2; refine wp_region_quiet_below zq17 zq17 ?_
     repeat (go_big_quiet_step (fail))
     refine wpQuiet_nil ?_; intro wz hw2; have HBZ := Lib.hid (show Below wo.heap.size wo wz by obtain ⟨p, rfl⟩ := hw2; exact (HBI.out.trans (HBQ.out.mono HBI.out.size)).trans (p.h.mono (Nat.le_trans HBI.out.size HBQ.out.size))); clear hw2; have HXZ := Lib.hid (pw_cell_below HBZ.out HX0.out); have HOZ := Lib.hid (Kd.R_below HO.out HBZ.out); have hct := HCT.out j hj; have hcf := HCF.out j hj; have HDZ := Lib.hid (HDR.out j hj); obtain ⟨AF, hAF⟩ : ∃ z, CF j = z := ⟨_, rfl⟩
     rw [hAF] at hcf HDZ; clear hAF
     go_wp2_with (first
      | ((with_reducible refine gate_dst (N := 49) rfl ?_); refine Kd.R_lit (kH W0) _ tR ?hg (N := 49) ?hd (xs := ([] : List (List Vl))) (inner := []) (ok := fun _ => True) (okp := fun _ => True) ?hr ?hp (fun _ hk => hk) trivial (Below.refl _ _) (Nat.le_refl _) zq30 ?_; (case hd => rfl); (case hg => rfl); (case hr => first | (go_simp; done) | (go_simp; rfl)); (case hp => exact (Reps.none _ _)); intro v49 wa ho hb hg_ hnew_; have HOA := Lib.hid ho; have HBA := Lib.hid hb; clear ho hb hg_ hnew_)
      | ((with_reducible refine gate_dst (N := 53) rfl ?_); refine Kd.R_append_rows (kH W0) (w0 := wz) wz.heap.size rfl (.tmp 49) (.tmp 52) tRs tR (.slice none 0 0) 24 rfl hu info39 rfl Nat.one_pos zq4 v49 [] (RS.take j) _ _ _ (fun _ => True) (fun _ => False) rfl rfl HOA.out ?aR (fun _ _ h => h) (fun _ h => h.elim) (fun _ _ => trivial) HBA.out HBA.out.size ?aL ?_; (case aR => have h := Kd.C_take (Kd.R_reads' (Kd.R_below HOZ.out HBA.out)).2.2 hj; rw [List.length_take, Nat.min_eq_left hj] at h; exact h); (case aL => rw [List.length_nil]; omega); intro v53 wb ho hb hg_ hnew_; have HOB := Lib.hid (show (kH W0).R tR wb wz.heap.size (fun _ => True) v53 (RS.take j) from ho); have HBB := Lib.hid hb; have xb := pw_cell_below hb HXZ.out; clear ho hb hg_ hnew_)
      | ((with_reducible refine gate_dst (N := 61) rfl ?_); at_builtin; refine Kd.R_append (kH W0) (w0 := wz) wz.heap.size rfl (.tmp 54) (.tmp 60) tRs tR (.slice none 0 0) 24 rfl hu info39 rfl Nat.one_pos zq4 v53 (RS.take j) X.f0 [.slice Ax X.f0.length cx] (fun _ => True) (fun _ => False) rfl rfl HXK.out (fun _ h => h.elim) (fun _ _ => trivial) HOB.out HBB.out HBB.out.size ?aL ?_; (case aL => rw [List.length_take]; omega); intro v61 wc ho hb hg_ hnew_; have HOC := Lib.hid ho; have HBC := Lib.hid hb; clear ho hb hg_ hnew_)
      | ((with_reducible refine gate_dst (N := 66) rfl ?_); refine Kd.R_append_rows (kH W0) (w0 := wz) wz.heap.size rfl (.tmp 62) (.tmp 65) tRs tR (.slice none 0 0) 24 rfl hu info39 rfl Nat.one_pos zq4 v61 (RS.take j ++ [X.f0]) (RS.drop j) _ _ _ (fun _ => True) (fun _ => False) rfl rfl HOC.out ?aR (fun _ _ h => h) (fun _ h => h.elim) (fun _ _ => trivial) HBC.out HBC.out.size ?aL ?_; (case aR => exact HDZ.out wc (Kd.R_reads' (Kd.R_below HOZ.out HBC.out)).2.2); (case aL => rw [List.length_append, List.length_take, List.length_singleton]; omega); intro v66 wd ho hb hg_ hnew_; have HOD := Lib.hid ho; have HBD := Lib.hid hb; clear ho hb hg_ hnew_))
     obtain ⟨AD, cD, rfl⟩ := Kd.R_slice HOD.out; go_roundw
     case rel => exact ⟨i + 1, AD, cD, by omega, by go_num, by rw [HNEW.out], ⟨by rw [HNEW.out]; exact Kd.R_lower HOD.out (Nat.le_trans HB.out.size HBZ.out.size)⟩, ⟨(HB.out.trans (HBZ.out.mono HB.out.size)).trans (HBD.out.mono (Nat.le_trans HB.out.size HBZ.out.size))⟩⟩
     case measure => simp [intOf]; omega
  ·obtain rfl : i = l.length := by omega
   rw [List.take_length, insR_eq] at HO ⊢; go_wp2; go_ret; exact ⟨_, rfl, HO.out, HB.out⟩
end Go.Proofs.YtmkgecapkeojaaaGreat.Eg
end
section
namespace Go.Proofs.YtmkgecapkeojaaaGreat.Eg
open Go.Proofs.YtmkgecapkeojaaaGreat Go.Proofs.YtmkgecapkeojaaaGreat.PDa
open Go.RowKit Go.Proofs.YtmkgecapkeojaaaGreatW.PrintWords Go.Proofs.YtmkgecapkeojaaaGreatW.PrintLast Go.Proofs.YtmkgecapkeojaaaGreatW.PrintMore
open Go.Proofs.YtmkgecapkeojaaaGreat.Stp Go.Proofs.YtmkgecapkeojaaaGreat.Run Go.Proofs.YtmkgecapkeojaaaGreat.Rw
def refL (g : List Jp → List Jp × Int) (out : List EdP) : List (List Vl × List Jp) → List EdP × Int
 | [] => if 4096 < out.length then ([], 7) else (out, 0)
 | x :: xs => if (g x.2).2 ≠ 0 then ([], (g x.2).2) else refL g (putP out x.1 (g x.2).1) xs
theorem putP_len (out : List EdP) (r : List Vl) (f : List Jp) : (putP out r f).length = out.length + f.length := by simp [putP]
theorem refL_full (g : List Jp → List Jp × Int) : ∀ (xs : List (List Vl × List Jp)) (out : List EdP), (∀ x ∈ xs, (g x.2).2 ≠ 0 → (g x.2).2 = 7) → 4096 < out.length → refL g out xs = ([], 7)
 | [], out, _, h => by rw [refL, if_pos h]
 | x :: xs, out, hx, h => by
  rw [refL]
  split
  ·rename_i c; rw [hx x List.mem_cons_self c]
  ·exact refL_full g xs _ (fun y hy => hx y (List.mem_cons_of_mem _ hy)) (by rw [putP_len]; omega)
theorem refL_map (g : List Jp → List Jp × Int) : ∀ (xs : List (List Vl × List Jp)) (out : List EdP), (∀ x ∈ xs, (g x.2).2 ≠ 0 → (g x.2).2 = 7) → out.length ≤ 4096 → refL g out xs = mapR g out xs
 | [], out, _, h => by rw [refL, if_neg zq4, mapR]
 | x :: xs, out, hx, h => by
  rw [refL, mapR]
  split
  ·rfl
  ·split
   ·rename_i c; exact refL_full g xs _ (fun y hy => hx y (List.mem_cons_of_mem _ hy)) c
   ·exact refL_map g xs _ (fun y hy => hx y (List.mem_cons_of_mem _ hy)) zq4
theorem refL_drop (g : List Jp → List Jp × Int) (out : List EdP) (gs : List (List Vl × List Jp)) (i : Nat) (h : i < gs.length) : refL g out (gs.drop i) = if (g gs[i].2).2 ≠ 0 then ([], (g gs[i].2).2) else refL g (putP out gs[i].1 (g gs[i].2).1) (gs.drop (i + 1)) := by
 rw [List.drop_eq_getElem_cons h, refL]
theorem argE_parts {x : EdP} (h : argE x = false) : rowMay x.f0 = true ∧ x.f2 ≤ 1048576 ∧ -1048576 ≤ x.f2 := by
 unfold argE at h; rw [Bool.or_eq_false_iff, Bool.or_eq_false_iff] at h; obtain ⟨h1, h2, h3⟩ := h; exact ⟨by simpa using h1, by have := of_decide_eq_false h2; omega, by have := of_decide_eq_false h3; omega⟩
theorem norm_seven (l : List EdP) (r : List Vl) (h : ∀ e ∈ l, argE e = false) (ht : ∀ e ∈ l, timeB e.f1 = false) : (normJ (jumpsOf l r)).2 ≠ 0 → (normJ (jumpsOf l r)).2 = 7 := by
 unfold normJ; have h1 : (jumpsOf l r).any (fun x => !fairB x.f1) = false := by
  rw [List.any_eq_false]; intro x hx; obtain ⟨e, he, rfl⟩ := List.mem_map.1 hx; have := argE_parts (h e (List.mem_filter.1 he).1); have : fairB (jmpE e).f1 = true := by
   show fairB e.f2 = true
   unfold fairB; rw [decide_eq_true this.2.1, decide_eq_true this.2.2]; rfl
  rw [this]; decide
 have h2 : (jumpsOf l r).any (fun x => timeB x.f0) = false := by
  rw [List.any_eq_false]; intro x hx; obtain ⟨e, he, rfl⟩ := List.mem_map.1 hx; rw [show timeB (jmpE e).f0 = false from ht e (List.mem_filter.1 he).1]; decide
 rw [if_neg (by rw [h1]; decide), if_neg (by rw [h2]; decide)]; unfold toldJ
 split <;> simp
theorem normV_ok (l : List EdP) (h : ∀ e ∈ l, argE e = false) (ht : ∀ e ∈ l, timeB e.f1 = false) : normV l = refL normJ [] (groups l) := by
 unfold normV; rw [if_neg (by rw [Bool.not_eq_true, List.any_eq_false]; intro e he; rw [h e he]; decide), if_neg (by rw [Bool.not_eq_true, List.any_eq_false]; intro e he; rw [ht e he]; decide)]; refine (refL_map normJ _ _ (fun x hx => ?_) zq30).symm; obtain ⟨r, _, rfl⟩ := List.mem_map.1 hx; exact norm_seven l r h ht
theorem rowsx_len (l : List EdP) : (rowsOf l).length ≤ l.length := by
 unfold rowsOf
 induction l with
 | nil => simp
 | cons e es ih =>
  rw [List.map_cons, List.foldr_cons]; have := rowIns_len e.f0 ((es.map (·.f0)).foldr rowIns []); simp only [List.length_cons]; omega
theorem normJ_len2 (f : List Jp) : (normJ f).1.length ≤ 1024 := by
 unfold normJ toldJ
 repeat' split
 all_goals first | exact Nat.zero_le _ | (rename_i h; exact mayJ_len h)
structure Hold2 (p : Prop) : Prop where
 out : p
theorem hold2 {p : Prop} (h : Hold2 p) : p := h.out
theorem refnorm_calls (A0 : Option Addr) (c0 : Nat) (l : List EdP) (w : World) (hr0 : Kd.C kE w A0 l.length l) (hc0 : l.length ≤ c0) (hl : l.length ≤ 1000000) :
  Calls Tryz.prog 58 #[.slice A0 l.length c0] w fun e w' => ∃ v, e = .returned (.tuple #[v, .int .i64 (normV l).2]) ∧ Kd.R kE tE w' w.heap.size (fun _ => True) v (normV l).1 ∧ Below w.heap.size w w' := by
 have HR := Lib.hid hr0; have HC := Lib.hid hc0; have HL := Lib.hid hl; have MC := Lib.hid (fun (r : List Vl) (A : Option Addr) (c : Nat) (w1 : World) (hC : Kd.C kV w1 A r.length r) (hc : r.length ≤ c) => (EvP.mayR r).get.elim fun k hk => r06_May.calls k A c r _ w1 hC hc hk); clear hr0 hc0; go_enter Tryz.func58, Tryz.ntmps58; go_wp2
 go_loopw [4] (fun v4 wr => ∃ (i : Nat), i ≤ l.length ∧ v4 = .int .i64 (i : Int) ∧ Aside0 (∀ x ∈ l.take i, argE x = false) ∧ Aside0 (Below w.heap.size w wr)) (fun v4 wr => l.length - (intOf v4).toNat)
 case atStart => exact ⟨0, Nat.zero_le _, rfl, ⟨by simp⟩, ⟨Below.refl _ _⟩⟩
 case round =>
  obtain ⟨i, hi, rfl, HE, HB⟩ := hrel
  by_cases c : i < l.length
  ·obtain ⟨X, hX⟩ : ∃ X, l[i] = X := ⟨_, rfl⟩
   obtain ⟨ad, Ax, cx, e1, x0, x1, x2, x3, x4⟩ := at_T41 (Kd.C_below HR.out HB.out) (i : Int) zq4 zq4; rw [Int.toNat_natCast, rdE l i c, hX] at x0 x1 x2; rw [rdE l i c, hX] at x3 x4; cases e1; have MX := Lib.hid (MC.out X.f0 Ax cx wr x4 x3); have HX := Lib.hid hX; have HX2 := Lib.hid x2; have HL1 := Lib.hid (show l.take (i + 1) = l.take i ++ [X] by rw [List.take_add_one, List.getElem?_eq_getElem c, hX]; rfl); have HM := Lib.hid (show X ∈ l by rw [← hX]; exact List.getElem_mem c); clear x1 x2 x3 x4 hX
   go_wp2_with (go_at_call 69; refine hold2 ?_)
   refine ⟨?_⟩; refine MX.out.mono ?_; rintro e w1 ⟨rfl, hb1⟩; have z2 := pw_cell_below hb1 HX2.out; have HB1 := Lib.hid (HB.out.trans (hb1.mono HB.out.size)); clear MX hb1; cases hbad : argE X with
   | true =>
    have HV := Lib.hid (show normV l = ([], 2) by unfold normV; rw [if_pos (List.any_eq_true.2 ⟨X, HM.out, hbad⟩)]); cases hm : rowMay X.f0 with
    | false =>
     go_wp2; go_ret2; rw [HV.out]; exact ⟨_, rfl, Kd.R_nil _ _ _ _ _, HB1.out⟩
    | true =>
     unfold argE at hbad; rw [hm, Bool.not_true, Bool.false_or] at hbad
     by_cases c1 : X.f2 > 1048576
     ·have b1 : decide (X.f2 > 1048576) = true := decide_eq_true c1
      go_wp2; go_ret2; rw [HV.out]; exact ⟨_, rfl, Kd.R_nil _ _ _ _ _, HB1.out⟩
     ·have b1 : decide (X.f2 > 1048576) = false := decide_eq_false c1
      rw [b1, Bool.false_or] at hbad; go_wp2; go_ret2; rw [HV.out]; exact ⟨_, rfl, Kd.R_nil _ _ _ _ _, HB1.out⟩
   | false =>
    obtain ⟨hm, h1, h2⟩ := argE_parts hbad; have b1 : decide (X.f2 > 1048576) = false := decide_eq_false zq4; have b2 : decide (X.f2 < -1048576) = false := decide_eq_false zq4; rw [hm]; go_wp2; go_roundw
    case rel =>
     refine ⟨i + 1, by omega, by go_num, ⟨fun x hx => ?_⟩, ⟨HB1.out⟩⟩; rw [HL1.out, List.mem_append] at hx
     rcases hx with hx | hx
     ·exact HE.out x hx
     ·rw [List.mem_singleton] at hx; rw [hx]; exact hbad
    case measure => simp [intOf]; omega
  ·obtain rfl : i = l.length := by omega
   have HARG := Lib.hid (show ∀ x ∈ l, argE x = false by have := HE.out; rw [List.take_length] at this; exact this); have HBa := Lib.hid HB.out; clear HE HB; go_wp2
   go_loopw [5] (fun v5 wr => ∃ (i : Nat), i ≤ l.length ∧ v5 = .int .i64 (i : Int) ∧ Aside0 (∀ x ∈ l.take i, timeB x.f1 = false) ∧ Aside0 (Below w.heap.size w wr)) (fun v5 wr => l.length - (intOf v5).toNat)
   case atStart => exact ⟨0, Nat.zero_le _, rfl, ⟨by simp⟩, ⟨HBa.out⟩⟩
   case round =>
    obtain ⟨i, hi, rfl, HE, HB⟩ := hrel
    by_cases c : i < l.length
    ·obtain ⟨X, hX⟩ : ∃ X, l[i] = X := ⟨_, rfl⟩
     obtain ⟨ad, Ax, cx, e1, x0, x1, x2, x3, x4⟩ := at_T41 (Kd.C_below HR.out HB.out) (i : Int) zq4 zq4; rw [Int.toNat_natCast, rdE l i c, hX] at x0 x1 x2; cases e1; have HL1 := Lib.hid (show l.take (i + 1) = l.take i ++ [X] by rw [List.take_add_one, List.getElem?_eq_getElem c, hX]; rfl); have HM := Lib.hid (show X ∈ l by rw [← hX]; exact List.getElem_mem c); clear x0 x2 x3 x4 hX; have HV := Lib.hid (fun h : timeB X.f1 = true => show normV l = ([], 13) by
      unfold normV; rw [if_neg (by rw [Bool.not_eq_true, List.any_eq_false]; intro e he; rw [HARG.out e he]; decide), if_pos (List.any_eq_true.2 ⟨X, HM.out, h⟩)])
     by_cases c1 : X.f1 < -1
     ·have b1 : decide (X.f1 < -1) = true := decide_eq_true c1
      have HV2 := Lib.hid (HV.out (by unfold timeB; rw [b1]; rfl)); go_wp2; go_ret2; rw [HV2.out]; exact ⟨_, rfl, Kd.R_nil _ _ _ _ _, HB.out⟩
     ·have b1 : decide (X.f1 < -1) = false := decide_eq_false c1
      by_cases c2 : X.f1 > 1125899906842624
      ·have b2 : decide (X.f1 > 1125899906842624) = true := decide_eq_true c2
       have HV2 := Lib.hid (HV.out (by unfold timeB; rw [b1, b2]; rfl)); go_wp2; go_ret2; rw [HV2.out]; exact ⟨_, rfl, Kd.R_nil _ _ _ _ _, HB.out⟩
      ·have b2 : decide (X.f1 > 1125899906842624) = false := decide_eq_false c2
       have HT := Lib.hid (show timeB X.f1 = false by unfold timeB; rw [b1, b2]; rfl); clear HV; go_wp2; go_roundw
       case rel =>
        refine ⟨i + 1, by omega, by go_num, ⟨fun x hx => ?_⟩, ⟨HB.out⟩⟩; rw [HL1.out, List.mem_append] at hx
        rcases hx with hx | hx
        ·exact HE.out x hx
        ·rw [List.mem_singleton] at hx; rw [hx]; exact HT.out
       case measure => simp [intOf]; omega
    ·obtain rfl : i = l.length := by omega
     have HTM := Lib.hid (show ∀ x ∈ l, timeB x.f1 = false by have := HE.out; rw [List.take_length] at this; exact this); obtain ⟨wB, hwB⟩ : ∃ x, x = wr := ⟨_, rfl⟩
     rw [← hwB] at HB ⊢; clear hwB HE HBa; have HBB := Lib.hid HB.out; clear HB
     go_wp2_with (go_at_call 66; refine hold2 ?_)
     refine ⟨?_⟩; have HBC := Lib.hid (below_alloc (Below.refl _ wB) (.cells #[] tE (0, 0))); obtain ⟨wC, hwC⟩ : ∃ x, x = wB.alloc (.cells #[] tE (0, 0)) := ⟨_, rfl⟩
     have hsC : wC.heap.size = wB.heap.size + 1 := by rw [hwC, World.size_alloc]
     have hoC : Kd.R kE tE wC wB.heap.size (fun _ => True) (.slice (some ⟨wB.heap.size, 0, none⟩) 0 0) [] := ⟨fun _ _ => trivial, [], ⟨rfl, .inr ⟨wB.heap.size, 0, #[], rfl, Nat.le_refl _, by rw [hwC]; exact blk_new wB _, Nat.le_refl _, Nat.zero_le _, rfl, rfl⟩⟩, Reps.none _ _⟩
     rw [← hwC] at HBC ⊢; clear hwC; have HSC := Lib.hid hsC; have HOC := Lib.hid hoC; clear hsC hoC; refine (hrows_calls A0 c0 l w wC HR.out (HBB.out.trans (HBC.out.mono HBB.out.size)) (by have := HL.out; omega) (fun e he => (argE_parts (HARG.out e he)).1)).mono ?_; rintro e w1 ⟨vr, rfl, hN, hb1⟩; obtain ⟨Ar, cr, rfl⟩ := Kd.R_slice hN; obtain ⟨RS, hRS⟩ : ∃ z, rowsOf l = z := ⟨_, rfl⟩
     rw [hRS] at hN ⊢; have HRS := Lib.hid hRS; have HF1 := Lib.hid hN; have HB1 := Lib.hid ((HBB.out.trans (HBC.out.mono HBB.out.size)).trans (hb1.mono (by have := HBB.out.size; have := HSC.out; omega))); have HOW := Lib.hid (Kd.R_lower (Kd.R_below HOC.out hb1) HBB.out.size); have HSZ := Lib.hid hb1.size; have HGR := Lib.hid (show groups l = RS.map fun r => (r, jumpsOf l r) by unfold groups; rw [hRS]); have HRL := Lib.hid (show RS.length ≤ 1000000 by
      have h1 := rowsx_len l; rw [hRS] at h1; have := HL.out; omega)
     have HRM := Lib.hid (show ∀ r ∈ RS, rowMay r = true by
      intro r hr; rw [← hRS, rowsOf_mem] at hr; obtain ⟨e, he, rfl⟩ := hr; exact (argE_parts (HARG.out e he)).1)
     clear hN hb1 hRS; go_wp2
     go_loopw [6, 8] (fun v6 v8 wr => ∃ (i : Nat) (out : List EdP) (A6 : Option Addr) (c6 : Nat), i ≤ RS.length ∧ v8 = .int .i64 (i : Int) ∧ v6 = .slice A6 out.length c6 ∧ Aside0 (Kd.R kE tE wr w.heap.size (fun _ => True) (.slice A6 out.length c6) out) ∧ Aside0 (Below w.heap.size w wr) ∧ Aside0 (w1.heap.size ≤ wr.heap.size) ∧
      Aside0 (∀ k, (((k < wB.heap.size ∨ wC.heap.size ≤ k) ∧ k < w1.heap.size) → wr.heap[k]? = w1.heap[k]?)) ∧ Aside0 (∀ b, (Value.slice A6 out.length c6).ownBlock = some b → (wB.heap.size ≤ b ∧ b < wC.heap.size) ∨ w1.heap.size ≤ b) ∧
      Aside0 (refL normJ [] (groups l) = refL normJ out ((groups l).drop i)) ∧ Aside0 (out.length ≤ 1024 * i)) (fun v6 v8 wr => RS.length - (intOf v8).toNat)
     case atStart => exact ⟨0, [], _, _, Nat.zero_le _, rfl, rfl, ⟨HOW.out⟩, ⟨HB1.out⟩, ⟨Nat.le_refl _⟩, ⟨fun _ _ => rfl⟩, ⟨fun b hb => by injection hb with hb; have hb' : wB.heap.size = b := hb; have := HSC.out; exact .inl ⟨by omega, by omega⟩⟩, ⟨by rw [List.drop_zero]⟩, ⟨Nat.le_refl _⟩⟩
     case round =>
      clear HBB HBC HOC HOW HB1 MC; obtain ⟨i, out, A6, c6, hi, rfl, rfl, HO, HB, HSW, HKP, HOB, HEQ, HLN⟩ := hrel
      by_cases c : i < RS.length
      ·have HFr := Lib.hid (Kd.R_step (Kd.R_tight rfl HF1.out) (fun k hk hlt => HKP.out k ⟨.inr (Kd.R_base HF1.out k hk.symm), hlt⟩))
       obtain ⟨r, hr⟩ : ∃ r, RS[i] = r := ⟨_, rfl⟩
       obtain ⟨ad, Ax, cx, hA, x0, hxl, hx0⟩ := at_H (Kd.R_reads' HFr.out).2.2 i r (by rw [List.getElem?_eq_getElem c, hr]); cases hA; have hxC := Kd.C_below hx0 HB.out; have HROW := Lib.hid (Kd.C_F k65_heap hx0); have HXC := Lib.hid hxC; have HXL := Lib.hid hxl; have HX0 := Lib.hid x0; have HRMi := Lib.hid (HRM.out r (by rw [← hr]; exact List.getElem_mem c)); have hgi : i < (groups l).length := by rw [HGR.out, List.length_map]; exact c
       have hgx : (groups l)[i] = (r, jumpsOf l r) := by
        have : (groups l)[i]? = some (r, jumpsOf l r) := by rw [HGR.out, List.getElem?_map, List.getElem?_eq_getElem c, hr]; rfl
        rw [List.getElem?_eq_getElem hgi] at this; exact Option.some.inj this
       have HST := Lib.hid (show refL normJ [] (groups l) = if (normJ (jumpsOf l r)).2 ≠ 0 then ([], (normJ (jumpsOf l r)).2) else refL normJ (putP out r (normJ (jumpsOf l r)).1) ((groups l).drop (i + 1)) by
        rw [HEQ.out, refL_drop normJ out (groups l) i hgi, hgx])
       obtain ⟨kj, hkj⟩ := (jumps10 l r (fun e he => by have := may_len (argE_parts (HARG.out e he)).1; omega) (by have := HL.out; omega)).get; obtain ⟨kn, hkn⟩ := (norm09 (jumpsOf l r) (by have := jumpsOf_len l r; have := HL.out; omega)).get; have JC := Lib.hid (r10_Jumps.calls kj A0 c0 l Ax cx r (jumpsOf l r) wr (Kd.C_below HR.out HB.out) HC.out hxC hxl hkj); have HKN := Lib.hid hkn; have pI : (0 ≤ (i : Int)) = True := eq_true zq4; have qI : ((i : Int) < (RS.length : Int)) = True := eq_true zq4; clear hx0 hxC hxl hkj hkn HFr hgi hgx hr
       go_wp2_with (go_at_call 26; refine hold2 ?_)
       refine ⟨?_⟩; refine JC.out.mono ?_; rintro e w2 ⟨vj, rfl, hRj, hb2⟩; obtain ⟨Aj, cj, rfl⟩ := Kd.R_slice hRj; have NC := Lib.hid (r09_Norm.calls kn Aj cj (jumpsOf l r) (normJ (jumpsOf l r)).1 (normJ (jumpsOf l r)).2 w2 (Kd.R_reads' hRj).2.2 (Kd.R_reads' hRj).2.1 HKN.out); have HB2 := Lib.hid hb2; clear hRj hb2 JC HKN x0
       go_wp2_with (go_at_call 93; refine hold2 ?_)
       refine ⟨?_⟩; refine NC.out.mono ?_; rintro e w3 ⟨vf, rfl, hRf, hb3⟩; obtain ⟨Af, cf, rfl⟩ := Kd.R_slice hRf; have HB3 := Lib.hid (HB2.out.trans (hb3.mono HB2.out.size)); have HRF := Lib.hid hRf; have z0 := pw_cell_below HB3.out HX0.out; have HBw3 := Lib.hid (HB.out.trans (HB3.out.mono HB.out.size)); clear NC hRf hb3 HB2; obtain ⟨fe, hfe⟩ : ∃ z, (normJ (jumpsOf l r)).2 = z := ⟨_, rfl⟩
       obtain ⟨ff, hff⟩ : ∃ z, (normJ (jumpsOf l r)).1 = z := ⟨_, rfl⟩
       have HFL := Lib.hid (show ff.length ≤ 1024 by rw [← hff]; exact normJ_len2 _); rw [hfe, hff] at HST; rw [hff] at HRF; rw [hfe, hff]
       by_cases ce : fe = 0
       ·subst ce
        have HST2 := Lib.hid (show refL normJ [] (groups l) = refL normJ (putP out r ff) ((groups l).drop (i + 1)) by rw [HST.out, if_neg zq30]); have PC := Lib.hid (refput_calls w.heap.size (fun _ => True) (.slice A6 out.length c6) out Ax cx r Af cf ff w3 (Kd.R_below HO.out HB3.out) HBw3.out.size (fun _ _ => trivial) (fun k => k < w.heap.size)
         (fun w4 h => HROW.out w4 (fun k hk _ => (h k hk).trans (HBw3.out.block k hk))) (fun k hk => ⟨Nat.lt_of_lt_of_le hk HBw3.out.size, fun e' => by have := Kd.R_base HO.out k e'.symm; omega⟩) (Kd.R_lower HRF.out (Nat.zero_le _)) (by have := may_len HRMi.out; omega) (by have := HLN.out; have := HFL.out; have := HRL.out; omega))
        clear HST hfe hff HROW HXC HXL HRF; have hwr := wrapN i (by have := HRL.out; omega)
        go_wp2_with (go_at_call 68; refine hold2 ?_)
        refine ⟨?_⟩; refine PC.out.mono ?_; rintro e w4 ⟨vp, rfl, hRp, hgr, hat⟩; obtain ⟨Ap, cp, rfl⟩ := Kd.R_slice hRp; have HRP := Lib.hid hRp; have HGRW := Lib.hid hgr; have HAT := Lib.hid hat; clear hRp hgr hat PC; go_wp2; go_roundw
        case rel =>
         refine ⟨i + 1, putP out r ff, _, _, by omega, by rw [hwr], rfl, ⟨HRP.out⟩, ⟨?_⟩, ⟨?_⟩, ⟨?_⟩, ⟨?_⟩, ⟨HST2.out⟩, ⟨?_⟩⟩
         ·exact pw_below_grown HBw3.out _ HBw3.out.size HGRW.out (fun k hk => Kd.R_base HO.out k hk)
         ·have := HSW.out; have := HB3.out.size; have := HGRW.out.size; omega
         ·intro k hk
          have h1 := HKP.out k hk; have h2 := HB3.out.block k (by have := HSW.out; omega); have h3 := HGRW.out.block k (by have := HSW.out; have := HB3.out.size; omega) (fun e' => by have := HOB.out k e'.symm; omega); rw [h3, h2, h1]
         ·intro b hb
          rcases HAT.out with h | ⟨g, hg, hle⟩
          ·rw [h] at hb; exact HOB.out b hb
          ·rw [hg] at hb; injection hb with hb; have := HSW.out; have := HB3.out.size; exact .inr zq4
         ·have h1 := HLN.out; have h2 := HFL.out; rw [putP_len]; omega
        case measure => rw [hwr]; simp [intOf]; omega
       ·have HV := Lib.hid (show normV l = ([], fe) by rw [normV_ok l HARG.out HTM.out, HST.out, if_pos ce])
        have b1 : (fe == 0) = false := beq_eq_false_iff_ne.mpr ce; have b2 : (fe != 0) = true := bne_iff_ne.mpr ce; clear HST hfe hff HROW HXC HXL HRF; go_wp2; go_ret2; rw [HV.out]; exact ⟨_, rfl, Kd.R_nil _ _ _ _ _, HBw3.out⟩
      ·obtain rfl : i = RS.length := by omega
       have HV := Lib.hid (show normV l = if 4096 < out.length then ([], 7) else (out, 0) by
        rw [normV_ok l HARG.out HTM.out, HEQ.out, HGR.out, List.drop_eq_nil_of_le (by rw [List.length_map]; exact Nat.le_refl _), refL])
       by_cases c2 : 4096 < out.length
       ·have b1 : decide ((out.length : Int) > 4096) = true := decide_eq_true zq4
        go_wp2; go_ret2; rw [HV.out, if_pos c2]; exact ⟨_, rfl, Kd.R_nil _ _ _ _ _, HB.out⟩
       ·have b1 : decide ((out.length : Int) > 4096) = false := decide_eq_false zq4
        go_wp2; go_ret2; rw [HV.out, if_neg c2]; exact ⟨_, rfl, HO.out, HB.out⟩
end Go.Proofs.YtmkgecapkeojaaaGreat.Eg
end
section
namespace Go.Proofs.YtmkgecapkeojaaaGreat.Eg
open Go.Proofs.YtmkgecapkeojaaaGreat Go.Proofs.YtmkgecapkeojaaaGreat.PDa
open Go.RowKit Go.Proofs.YtmkgecapkeojaaaGreatW.PrintWords Go.Proofs.YtmkgecapkeojaaaGreatW.PrintLast Go.Proofs.YtmkgecapkeojaaaGreatW.PrintMore
open Go.Proofs.YtmkgecapkeojaaaGreat.Stp Go.Proofs.YtmkgecapkeojaaaGreat.Rw Go.Proofs.YtmkgecapkeojaaaGreat.SortM
def chainA (l : List EdP) : Nat → Bool
 | 0 => chain0 l
 | i + 1 => match l[i]? with
  | some p => chainB p (l.drop (i + 1))
  | none => true
theorem chainA_0 (l : List EdP) (h : 0 < l.length) : chainA l 0 = (okE l[0] && chainA l 1) := by
 cases l with
 | nil => simp at h
 | cons e es => rfl
theorem chainA_1 (l : List EdP) (i : Nat) (h : i + 1 < l.length) : chainA l (i + 1) = (okE l[i + 1] && stepB l[i] l[i + 1] && chainA l (i + 2)) := by
 simp only [chainA]; rw [List.getElem?_eq_getElem (show i < l.length by omega), List.getElem?_eq_getElem h, List.drop_eq_getElem_cons h]
 rfl
theorem chainA_end (l : List EdP) : chainA l l.length = true := by
 cases h : l.length with
 | zero => rw [List.eq_nil_of_length_eq_zero h]; rfl
 | succ n =>
  simp only [chainA]; rw [List.getElem?_eq_getElem (show n < l.length by omega), List.drop_eq_nil_of_le zq4]
  rfl
def hmy.T6 : Bool × List (List Nat × List Nat) := (true, [([], []), ([], []), ([0, 1], [0, 1]), ([2], [2]), ([3], [3]), ([4], [4]), ([5], [5]), ([6, 5], [6]), ([7], [7]), ([7], [7]), ([8, 9, 7], [7, 8, 9]), ([10, 7], [7, 10]), ([11, 7], [7, 11]), ([7], [7]), ([7], [7]), ([13, 14, 7], [7, 13, 14]), ([15, 7], [7, 15]), ([16, 7], [7, 16]), ([12, 17, 7], [7, 12, 17]), ([18, 7], [7, 18]), ([19, 7, 7], [7, 19]), ([20, 7], [7, 20]), ([7, 21], [7, 21])])
def hmy.B6 : List Nat := [0, 0, 3, 7, 15, 31, 63, 127, 255, 255, 1023, 2047, 4095, 255, 255, 24831, 57599, 123135, 262143, 524287, 1048575, 2097151, 4194303]
theorem hmy.tab6 : rtab .any (opsOf Tryz.f50 6) = hmy.T6 := by kernel_rfl
theorem hmy.bits6 : waitsOk hmy.T6.2 hmy.B6 = true := by kernel_rfl
theorem hmay_calls (A0 : Option Addr) (c0 : Nat) (l : List EdP) (w : World) (hr0 : Kd.C kE w A0 l.length l) (hc0 : l.length ≤ c0) (hl : l.length ≤ 1024) (hrow : ∀ e ∈ l, e.f0.length ≤ 4398046511104) :
  Calls Tryz.prog 50 #[.slice A0 l.length c0] w fun e w' => e = .returned (.bool (mayE l)) ∧ Below w.heap.size w w' := by
 have HR := Lib.hid hr0; have HC := Lib.hid hc0; have HL := Lib.hid hl; have HRW := Lib.hid hrow; have HM := Lib.hid (show mayE l = chainA l 0 from mayE_chain l hl); clear hr0 hc0 hrow; go_enter Tryz.func50, Tryz.ntmps50; have b0 : decide ((l.length : Int) > 4096) = false := decide_eq_false zq4; clear hl; go_wp2; clear b0
 go_loopw [3] (fun v3 wr => ∃ (i : Nat), i ≤ l.length ∧ v3 = .int .i64 (i : Int) ∧ Aside0 (mayE l = chainA l i) ∧ Aside0 (∀ e ∈ l.take i, rowMay e.f0 = true) ∧ Aside0 (Below w.heap.size w wr)) (fun v3 wr => l.length - (intOf v3).toNat)
 case atStart => exact ⟨0, Nat.zero_le _, rfl, ⟨HM.out⟩, ⟨by simp⟩, ⟨Below.refl _ _⟩⟩
 case round =>
  clear HM; obtain ⟨i, hi, rfl, HEQ, HOK, HB⟩ := hrel; have hll := HL.out
  by_cases c : i < l.length
  ·obtain ⟨X, hX⟩ : ∃ X, l[i] = X := ⟨_, rfl⟩
   obtain ⟨ad, Ax, cx, e1, x0, x1, x2, x3, x4⟩ := at_T41 (Kd.C_below HR.out HB.out) (i : Int) zq4 zq4; rw [Int.toNat_natCast, rdE l i c, hX] at x0 x1 x2; rw [rdE l i c, hX] at x3 x4; cases e1; obtain ⟨P, hP⟩ : ∃ P, (0 < i → l[i - 1]? = some P) := by
    by_cases h0 : 0 < i
    ·exact ⟨l[i - 1], fun _ => List.getElem?_eq_getElem zq4⟩
    ·exact ⟨X, fun h => absurd h h0⟩
   have HST := Lib.hid (show mayE l = (okE X && (decide (i = 0) || stepB P X) && chainA l (i + 1)) by
    rw [HEQ.out]; cases i with
    | zero => rw [chainA_0 l c, hX]; simp
    | succ n =>
     have h := hP zq4; rw [Nat.add_sub_cancel, List.getElem?_eq_getElem (show n < l.length by omega)] at h; injection h with h
     rw [chainA_1 l n c, hX, h]; simp)
   have HTK := Lib.hid (show l.take (i + 1) = l.take i ++ [X] by rw [List.take_add_one, List.getElem?_eq_getElem c, hX]; rfl); obtain ⟨km, hkm⟩ := (EvP.mayR X.f0).get; have MX := Lib.hid (fun (W : World) (h : Below wr.heap.size wr W) => r06_May.calls km Ax cx X.f0 _ W (Kd.C_below x4 h) x3 hkm); have X0 := Lib.hid (fun (W : World) (h : Below wr.heap.size wr W) => pw_cell_below h x0); have X1 := Lib.hid (fun (W : World) (h : Below wr.heap.size wr W) => pw_cell_below h x1); have X2 := Lib.hid (fun (W : World) (h : Below wr.heap.size wr W) => pw_cell_below h x2); have XC := Lib.hid x4; have XL := Lib.hid x3; have HP := Lib.hid hP; have pI : (0 ≤ (i : Int)) = True := eq_true zq4; have qI : ((i : Int) < (l.length : Int)) = True := eq_true zq4; have hrx : X.f0.length ≤ 4398046511104 := HRW.out X (by rw [← hX]; exact List.getElem_mem c); clear x0 x1 x2 x3 x4 hkm hX hP; cases hm : rowMay X.f0 with
   | false =>
    have HV := Lib.hid (show mayE l = false by rw [HST.out, show okE X = false by unfold okE; rw [hm]; rfl]; rfl); rw [hm] at MX; have x0' := fun p : BelowOf wr => X0.out p.W p.h
    go_wp2; refine wp_region_quiet_below zq17 zq17 ?_
    repeat (go_big_quiet_step (exact below_calls (MX.out _ (BelowOf.h _))))
    refine wpQuiet_nil ?_; intro wq hw1; have HBQ := Lib.hid (show Below wr.heap.size wr wq by obtain ⟨p, rfl⟩ := hw1; exact p.h); clear hw1 x0'; go_wp2; go_ret; exact ⟨by rw [HV.out]; rfl, HB.out.trans (HBQ.out.mono HB.out.size)⟩
   | true =>
    rw [hm] at MX; have hj9 := may09_one ⟨X.f1, X.f2⟩; obtain ⟨mj, hmj⟩ : ∃ b, mayJ [(⟨X.f1, X.f2⟩ : Jp)] = b := ⟨_, rfl⟩
    rw [hmj] at hj9; have HOKE := Lib.hid (show okE X = mj by unfold okE; rw [hm, ← hmj]; rfl); obtain ⟨k9, hk9⟩ := hj9.get; have HK9 := Lib.hid hk9; clear hk9 hmj; obtain ⟨wA, hwA⟩ : ∃ x, x = wr := ⟨_, rfl⟩
    go_wp2; have HBB := below_drew1 (Below.refl wr.heap.size wr); have b0 := X0.out _ HBB; have b1 := X1.out _ HBB; have b2 := X2.out _ HBB; refine start_ (n := 23) (S := fun w' => Below wr.heap.size wr w' ∧ w'.cell? (ad.add (i * 3)) = some (.slice Ax X.f0.length cx) ∧ w'.cell? ⟨(ad.add (i * 3)).block, (ad.add (i * 3)).off + 1, none⟩ = some (.int .i64 X.f1) ∧ w'.cell? ⟨(ad.add (i * 3)).block, (ad.add (i * 3)).off + 2, none⟩ = some (.int .i64 X.f2)) (ds := []) #[false, false, false, false, false, false, false, false, false, false, false, false, false, false, false, false, false, false, false, false, false, false, false] zq17 rfl rfl ⟨HBB, b0, b1, b2⟩ (fun hHeld => ?_); refine with_tabW hmy.tab6 hmy.bits6 (fun HT_ HW_ => ?_); refine pZ 0 16 ?_; refine pZ 1 17 ?_; refine pZ 2 18 ?_; refine pZ 3 19 ?_; refine tZ4 4 20 ?_; refine oZ 5 21 (fun K hK => ?_); refine goes_ Tryz.func69 zq17 rfl #[.slice Ax X.f0.length cx] (by rfl) rfl rfl zq67 ?_
    with_reducible refine (MX.out _ hHeld.1).mono ?_
    rintro e w5 ⟨rfl, hb5⟩; refine ⟨_, rfl, ?_⟩; have hb6 := hHeld.1.trans (hb5.mono hHeld.1.size); refine hK.out _ _ ⟨hb6, X0.out _ hb6, X1.out _ hb6, X2.out _ hb6⟩ (fun hHeld => ?_); clear hK K; refine nZ 21 ?_; refine pZ 6 22 ?_; refine pZ 7 23 ?_; refine pZ 8 24 ?_; refine pZ 9 25 ?_; refine pZ 10 26 ?_; refine pZ 11 27 ?_; refine pZ 13 29 ?_; refine pZ 14 30 ?_; refine pZ 15 31 ?_; refine pZ 16 32 ?_; refine tZ4 12 28 ?_; refine tZ4 17 33 ?_; refine pZ 18 34 ?_; refine oZ 19 35 (fun K hK => ?_); refine Kd.R_lit_step kJp _ tJ ?hg (N := 35) ?hd (xs := [(⟨X.f1, X.f2⟩ : Jp)]) (inner := [.int .i64 X.f1, .int .i64 X.f2]) (ok := fun _ => True) (okp := fun _ => True) ?hr ?hp (fun _ hk => hk) trivial (Below.refl _ _) (Nat.le_refl _) zq30 ?_
    case hd => rfl
    case hg => rfl
    case hr => first | (go_simp; done) | (go_simp; rfl)
    case hp => exact Reps.c2 (k85_mkM _ _ _ ⟨X.f1, X.f2⟩) (Reps.none _ _)
    intro vl w3 hRl hbl hgl hnl; obtain ⟨Al, cl, rfl⟩ := Kd.R_slice hRl; have HRL3 := Lib.hid (Kd.R_reads' hRl); have hb7 := hHeld.1.trans (hbl.mono hHeld.1.size); clear hRl hgl hnl; refine hK.out _ _ ⟨hb7, X0.out _ hb7, X1.out _ hb7, X2.out _ hb7⟩ (fun hHeld => ?_); clear hK K; refine nZ 35 ?_; refine oZ 20 36 (fun K hK => ?_); refine goes_ Tryz.func79 zq17 rfl #[.slice Al ([⟨X.f1, X.f2⟩] : List Jp).length cl] (by rfl) rfl rfl zq67 ?_
    with_reducible refine (r09_May.calls k9 Al cl [⟨X.f1, X.f2⟩] _ _ (Kd.C_below HRL3.out.2.2 (Below.refl _ _)) HRL3.out.2.1 HK9.out).mono ?_
    rintro e w9 ⟨rfl, hb9⟩; refine ⟨_, rfl, ?_⟩; have hb8 := hHeld.1.trans (hb9.below.mono hHeld.1.size); have HBQ := Lib.hid hb8; refine hK.out _ _ ⟨hb8, X0.out _ hb8, X1.out _ hb8, X2.out _ hb8⟩ (fun hHeld => ?_); clear hK K; refine nZ 36 ?_; refine pZ 21 37 ?_; refine pZ 22 38 ?_; refine done_ (done_of HT_.out zq17) ?_; cases mj with
    | false =>
     have HV := Lib.hid (show mayE l = false by rw [HST.out, HOKE.out]; rfl); go_wp2; go_ret; exact ⟨by rw [HV.out]; rfl, HB.out.trans (HBQ.out.mono HB.out.size)⟩
    | true =>
     rw [HOKE.out, Bool.true_and] at HST; have HOKN := Lib.hid (show ∀ e ∈ l.take (i + 1), rowMay e.f0 = true by
      intro e he; rw [HTK.out, List.mem_append] at he
      rcases he with he | he
      ·exact HOK.out e he
      ·rw [List.mem_singleton] at he; rw [he]; exact hm)
     have HBN := Lib.hid (HB.out.trans (HBQ.out.mono HB.out.size)); clear HOKE HK9 MX HTK
     by_cases h0 : i = 0
     ·subst h0
      have HEN := Lib.hid (show mayE l = chainA l (0 + 1) by rw [HST.out, decide_eq_true rfl, Bool.true_or, Bool.true_and]); go_wp2; go_roundw
      case rel => exact ⟨0 + 1, by omega, by go_num, ⟨HEN.out⟩, ⟨HOKN.out⟩, ⟨HBN.out⟩⟩
      case measure => simp [intOf]; omega
     ·have bz : ((i : Int) == 0) = false := beq_eq_false_iff_ne.mpr zq4
      have hPP := HP.out zq4; rw [decide_eq_false h0, Bool.false_or] at HST; have hi1 : i - 1 < l.length := by omega
      have hw1 : wrap64 ((i : Int) - 1) = ((i - 1 : Nat) : Int) := by unfold wrap64; omega
      have hPg : l[i - 1] = P := by rw [List.getElem?_eq_getElem hi1] at hPP; exact Option.some.inj hPP
      obtain ⟨bd, Ay, cy, e2, y0, y1, y2, y3, y4⟩ := at_T41 (Kd.C_below HR.out HBN.out) ((i - 1 : Nat) : Int) zq4 zq4; rw [Int.toNat_natCast, rdE l (i - 1) hi1, hPg] at y0 y1 y2; rw [rdE l (i - 1) hi1, hPg] at y3 y4; cases e2; obtain ⟨kc, hkc⟩ := (ref06 P.f0 X.f0).get; obtain ⟨cc, hcc⟩ : ∃ z, cmpR P.f0 X.f0 = z := ⟨_, rfl⟩
      rw [hcc] at hkc; have HSB := Lib.hid (show stepB P X = (decide (cc < 0) || (decide (cc = 0) && decide (P.f1 < X.f1))) by unfold stepB; rw [hcc]); have xC := Kd.C_below XC.out HBQ.out; have xl := XL.out; have CM := Lib.hid (fun (p : BelowOf w9) => r06_Compare.calls kc Ay cy P.f0 Ax cx X.f0 _ p.W (Kd.C_below y4 p.h) y3 (Kd.C_below xC p.h) xl hkc); have x0' := fun p => BelowOf.cell (X0.out _ HBQ.out) p
      have y0' := fun p => BelowOf.cell y0 p
      have pK : (0 ≤ ((i - 1 : Nat) : Int)) = True := eq_true zq4; have qK : (((i - 1 : Nat) : Int) < (l.length : Int)) = True := eq_true zq4; have Y1 := Lib.hid y1; clear y1 y2 y3 y4 hkc hcc xC xl hPg hPP HP; go_wp2; refine wp_region_quiet_below zq17 zq17 ?_
      repeat (go_big_quiet_step (exact below_calls (CM.out _)))
      refine wpQuiet_nil ?_; intro wq hw2; have HB2 := Lib.hid (show Below w9.heap.size w9 wq by obtain ⟨p, rfl⟩ := hw2; exact p.h); have HBM := Lib.hid (HBN.out.trans (HB2.out.mono HBN.out.size)); have z1' := fun p => BelowOf.cell (pw_cell_below HB2.out (X1.out _ HBQ.out)) p
      have z2' := fun p => BelowOf.cell (pw_cell_below HB2.out Y1.out) p
      clear hw2 x0' y0' y0 CM
      by_cases h1 : cc > 0
      ·have b1 : decide (cc > 0) = true := decide_eq_true h1
       have HV := Lib.hid (show mayE l = false by rw [HST.out, HSB.out, decide_eq_false (show ¬ cc < 0 by omega), decide_eq_false (show ¬ cc = 0 by omega)]; rfl); go_wp2; refine wp_region_quiet_below zq17 zq17 ?_
       repeat (go_big_quiet_step (fail))
       refine wpQuiet_nil ?_; intro wz hw3; have HBZ := Lib.hid (show Below w.heap.size w wz by obtain ⟨p, rfl⟩ := hw3; exact HBM.out.trans (p.h.mono HBM.out.size)); clear hw3 z1' z2'; go_wp2; go_ret; exact ⟨by rw [HV.out]; rfl, HBZ.out⟩
      ·have b1 : decide (cc > 0) = false := decide_eq_false h1
       by_cases h2 : cc = 0
       ·have b2 : (cc == 0) = true := beq_iff_eq.mpr h2
        by_cases h3 : P.f1 ≥ X.f1
        ·have b3 : decide (P.f1 ≥ X.f1) = true := decide_eq_true h3
         have HV := Lib.hid (show mayE l = false by rw [HST.out, HSB.out, decide_eq_false (show ¬ cc < 0 by omega), decide_eq_false (show ¬ P.f1 < X.f1 by omega), Bool.and_false]; rfl); go_wp2; refine wp_region_quiet_below zq17 zq17 ?_
         repeat (go_big_quiet_step (fail))
         refine wpQuiet_nil ?_; intro wz hw3; have HBZ := Lib.hid (show Below w.heap.size w wz by obtain ⟨p, rfl⟩ := hw3; exact HBM.out.trans (p.h.mono HBM.out.size)); clear hw3 z1' z2'; go_wp2; go_ret; exact ⟨by rw [HV.out]; rfl, HBZ.out⟩
        ·have b3 : decide (P.f1 ≥ X.f1) = false := decide_eq_false h3
         have HEN := Lib.hid (show mayE l = chainA l (i + 1) by rw [HST.out, HSB.out, decide_eq_true h2, decide_eq_true (show P.f1 < X.f1 by omega), Bool.and_true, Bool.or_true, Bool.true_and]); go_wp2; refine wp_region_quiet_below zq17 zq17 ?_
         repeat (go_big_quiet_step (fail))
         refine wpQuiet_nil ?_; intro wz hw3; have HBZ := Lib.hid (show Below w.heap.size w wz by obtain ⟨p, rfl⟩ := hw3; exact HBM.out.trans (p.h.mono HBM.out.size)); clear hw3 z1' z2'; go_wp2; go_roundw
         case rel => exact ⟨i + 1, by omega, by go_num, ⟨HEN.out⟩, ⟨HOKN.out⟩, ⟨HBZ.out⟩⟩
         case measure => simp [intOf]; omega
       ·have b2 : (cc == 0) = false := beq_eq_false_iff_ne.mpr h2
        have HEN := Lib.hid (show mayE l = chainA l (i + 1) by rw [HST.out, HSB.out, decide_eq_true (show cc < 0 by omega), Bool.true_or, Bool.true_and]); go_wp2; refine wp_region_quiet_below zq17 zq17 ?_
        repeat (go_big_quiet_step (fail))
        refine wpQuiet_nil ?_; intro wz hw3; have HBZ := Lib.hid (show Below w.heap.size w wz by obtain ⟨p, rfl⟩ := hw3; exact HBM.out.trans (p.h.mono HBM.out.size)); clear hw3 z1' z2'; go_wp2; go_roundw
        case rel => exact ⟨i + 1, by omega, by go_num, ⟨HEN.out⟩, ⟨HOKN.out⟩, ⟨HBZ.out⟩⟩
        case measure => simp [intOf]; omega
  ·obtain rfl : i = l.length := by omega
   have HV := Lib.hid (show mayE l = true by rw [HEQ.out, chainA_end]); have HOKL := Lib.hid (show ∀ e ∈ l, rowMay e.f0 = true by have := HOK.out; rw [List.take_length] at this; exact this); have HBL := Lib.hid HB.out; clear HEQ HOK HB
   go_wp2_with (go_at_call 66; refine hold3 ?_)
   refine ⟨?_⟩; refine (hrows_calls A0 c0 l w wr HR.out HBL.out zq4 HOKL.out).mono ?_; rintro e w1 ⟨v, rfl, hRr, hb1⟩; obtain ⟨Ar, cr, rfl⟩ := Kd.R_slice hRr; have HRS := Lib.hid (Kd.R_reads' hRr).2.2; have HB1 := Lib.hid (HBL.out.trans (hb1.mono HBL.out.size)); have HRC := Lib.hid (kH_C HB1.out HRS.out); obtain ⟨RS, hRS⟩ : ∃ z, rowsOf l = z := ⟨_, rfl⟩
   rw [hRS] at HRC ⊢; have hrl : RS.length ≤ 1024 := by
    have := insR_len l; rw [insR_eq, hRS] at this; omega
   clear hRr hb1 hRS HRS; go_wp2
   go_loopw [6] (fun v6 wr => ∃ (j : Nat), j ≤ RS.length ∧ v6 = .int .i64 (j : Int) ∧ Aside0 (Below w1.heap.size w1 wr)) (fun v6 wr => RS.length - (intOf v6).toNat)
   case atStart => exact ⟨0, Nat.zero_le _, rfl, ⟨Below.refl _ _⟩⟩
   case round =>
    obtain ⟨j, hj, rfl, HBI⟩ := hrel
    by_cases cj : j < RS.length
    ·obtain ⟨r, hr⟩ : ∃ r, RS[j] = r := ⟨_, rfl⟩
     obtain ⟨a3, Ay, cy, e3, y0, y1, y2⟩ := at_L3 (Kd.C_below HRC.out HBI.out) (j : Int) zq4 zq4; rw [rdR RS j cj, hr] at y0 y1 y2; rw [Int.toNat_natCast] at y0; cases e3; obtain ⟨kj, hkj⟩ := (jumps10 l r HRW.out zq4).get; have JC := Lib.hid (r10_Jumps.calls kj A0 c0 l Ay cy r (jumpsOf l r) wr (Kd.C_below HR.out (HB1.out.trans (HBI.out.mono HB1.out.size))) HC.out y2 y1 hkj); have bj : decide (((jumpsOf l r).length : Int) > 1024) = false := decide_eq_false (by have := jumpsOf_len l r; omega); have pJ : (0 ≤ (j : Int)) = True := eq_true zq4; have qJ : ((j : Int) < (RS.length : Int)) = True := eq_true zq4; clear y1 y2 hkj hr
     go_wp2_with (go_at_call 26; refine hold3 ?_)
     refine ⟨?_⟩; refine JC.out.mono ?_; rintro e w2 ⟨vj, rfl, hRj, hb2⟩; obtain ⟨Aj, cj2, rfl⟩ := Kd.R_slice hRj; have HBJ := Lib.hid (HBI.out.trans (hb2.mono HBI.out.size)); clear hRj hb2 JC y0; go_wp2; go_roundw
     case rel => exact ⟨j + 1, by omega, by go_num, ⟨HBJ.out⟩⟩
     case measure => simp [intOf]; omega
    ·have pj : decide ((j : Int) < (RS.length : Int)) = false := decide_eq_false zq4
     go_wp2; go_ret; exact ⟨by rw [HV.out]; rfl, HB1.out.trans (HBI.out.mono HB1.out.size)⟩
end Go.Proofs.YtmkgecapkeojaaaGreat.Eg
end
section
namespace Go.Proofs.YtmkgecapkeojaaaGreat.Eg
open Go.Proofs.YtmkgecapkeojaaaGreat Go.Proofs.YtmkgecapkeojaaaGreat.PDa
open Go.RowKit Go.Proofs.YtmkgecapkeojaaaGreatW.PrintWords Go.Proofs.YtmkgecapkeojaaaGreatW.PrintLast Go.Proofs.YtmkgecapkeojaaaGreatW.PrintMore
open Go.Proofs.YtmkgecapkeojaaaGreat.Rw
open Go.Proofs.YtmkgecapkeojaaaGreat.EvP (outV evL evU evB VOk ROk okW takes T good_ev R64)
theorem bx1 (w : World) (x0 x1 x2 : Value) (t : TypeId) : Bx w.heap.size (w.alloc (.cells #[x0, x1, x2] t)) x0 x1 x2 := by
 refine ⟨?_, ?_, ?_, ?_, ?_, ?_, ?_⟩
 all_goals first | (simp [go_sem]; done) | (simp; omega)
end Go.Proofs.YtmkgecapkeojaaaGreat.Eg
end
section
namespace Go.Proofs.YtmkgecapkeojaaaGreat.Eg
open Go.Proofs.YtmkgecapkeojaaaGreat Go.Proofs.YtmkgecapkeojaaaGreat.PDa
open Go.RowKit Go.Proofs.YtmkgecapkeojaaaGreatW.PrintWords Go.Proofs.YtmkgecapkeojaaaGreatW.PrintLast Go.Proofs.YtmkgecapkeojaaaGreatW.PrintMore
open Go.Proofs.YtmkgecapkeojaaaGreat.Stp Go.Proofs.YtmkgecapkeojaaaGreat.Rw
theorem mapR_sub (g : List Jp → List Jp × Int) : ∀ (gs : List (List Vl × List Jp)) (out : List EdP), (∀ e ∈ (mapR g out gs).1, e ∈ out ∨ ∃ x ∈ gs, e.f0 = x.1) ∧ (out.length ≤ 4096 → (mapR g out gs).1.length ≤ 4096)
 | [], out => by rw [mapR]; exact ⟨fun e he => .inl he, fun h => h⟩
 | x :: xs, out => by
  rw [mapR]
  split
  ·exact ⟨by simp, by simp⟩
  ·split
   ·exact ⟨by simp, by simp⟩
   ·rename_i c
    obtain ⟨h1, h2⟩ := mapR_sub g xs (putP out x.1 (g x.2).1); refine ⟨fun e he => ?_, fun _ => h2 zq4⟩
    rcases h1 e he with h | ⟨y, hy, h⟩
    ·unfold putP at h
     rw [List.mem_append] at h
     rcases h with h | h
     ·exact .inl h
     ·obtain ⟨j, _, rfl⟩ := List.mem_map.1 h
      exact .inr ⟨x, List.mem_cons_self, rfl⟩
    ·exact .inr ⟨y, List.mem_cons_of_mem _ hy, h⟩
theorem normV_sub (l : List EdP) : (∀ e ∈ (normV l).1, e.f0.length ≤ 8) ∧ (normV l).1.length ≤ 4096 := by
 unfold normV
 split
 ·exact ⟨by simp, by simp⟩
 ·split
  ·exact ⟨by simp, by simp⟩
  ·rename_i h _
   obtain ⟨h1, h2⟩ := mapR_sub normJ (groups l) []; refine ⟨fun e he => ?_, h2 zq30⟩
   rcases h1 e he with h3 | ⟨x, hx, h3⟩
   ·simp at h3
   ·obtain ⟨r, hr, rfl⟩ := List.mem_map.1 hx
    obtain ⟨e', he', e1⟩ := (rowsOf_mem l r).1 hr; have ha : argE e' = false := by
     cases c : argE e' with
     | false => rfl
     | true => exact absurd (List.any_eq_true.2 ⟨e', he', c⟩) h
    have := may_len (argE_parts ha).1; rw [h3]
    show r.length ≤ 8
    rw [← e1]; exact this
end Go.Proofs.YtmkgecapkeojaaaGreat.Eg
end
