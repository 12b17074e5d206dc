/- Texts of this claim, put together by a program: Alone, HSame, Live, LawF, RefPut, RefNorm, RefProj, LawP, Any, JoinL, LiveP, LiveJ, LiveA, Ahead, AheadP, AloneP, LawT, JoinT, LawFW, LawJT, LawAT, WSized. -/
import Derived.Test.YtmkgecapkeojaaaGreatZ9
import Derived.Deep.DeepCutAuto
import Derived.Deep.RegionHeld3
import Derived.SizedLaws
import Derived.ChangeSlices
set_option linter.unusedVariables false
set_option linter.unusedSimpArgs false
set_option maxHeartbeats 8000000
set_option maxRecDepth 100000
section
namespace Go.Proofs.YtmkgecapkeojaaaGreat.Eg
open Go.Proofs.YtmkgecapkeojaaaGreat Go.Proofs.YtmkgecapkeojaaaGreat.PDa
open Go.RowKit Go.Proofs.YtmkgecapkeojaaaGreatW.PrintWords Go.Proofs.YtmkgecapkeojaaaGreatW.PrintLast Go.Proofs.YtmkgecapkeojaaaGreatW.PrintMore
open Go.Proofs.YtmkgecapkeojaaaGreat.SortM Go.Proofs.YtmkgecapkeojaaaGreat.Run Go.Proofs.YtmkgecapkeojaaaGreat.Stp Go.Proofs.YtmkgecapkeojaaaGreat.Rw
attribute [local go_sem] Oper.semAt_some
def alR (hh : List Vl → Bool × Int) (R : List Gq) (out : List EdP) : List Gq → List EdP × Int
 | [] => (out, 0)
 | x :: xs => if (partsR hh x [] R).2 ≠ 0 then ([], (partsR hh x [] R).2) else if (bothV whereO x.2 (partsR hh x [] R).1).2 ≠ 0 then ([], (bothV whereO x.2 (partsR hh x [] R).1).2) else
  alR hh R (out ++ buildP x.1 (bothV whereO x.2 (partsR hh x [] R).1).1) xs
theorem alR_drop (hh : List Vl → Bool × Int) (R : List Gq) (out : List EdP) (l : List Gq) (k : Nat) (x : Gq) (h : l[k]? = some x) :
  alR hh R out (l.drop k) = if (partsR hh x [] R).2 ≠ 0 then ([], (partsR hh x [] R).2) else if (bothV whereO x.2 (partsR hh x [] R).1).2 ≠ 0 then ([], (bothV whereO x.2 (partsR hh x [] R).1).2) else
   alR hh R (out ++ buildP x.1 (bothV whereO x.2 (partsR hh x [] R).1).1) (l.drop (k + 1)) := by
 obtain ⟨hk, hx⟩ := List.getElem?_eq_some_iff.1 h; rw [List.drop_eq_getElem_cons hk, hx, alR]
def AloneIs (hh : List Vl → Bool × Int) (ef : Int) (l r : List EdP) (o : List EdP × Int) : Prop :=
 ((mayE l && mayE r) = false ∧ o = ([], 2)) ∨ ((mayE l && mayE r) = true ∧ (tableE l && tableE r) = false ∧ o = ([], 20)) ∨ ((mayE l && mayE r) = true ∧ (tableE l && tableE r) = true ∧ ef ≠ 0 ∧ o = ([], ef)) ∨
 (((mayE l && mayE r) = true ∧ (tableE l && tableE r) = true ∧ ef = 0) ∧ (((alR hh (runsP r) [] (runsP l)).2 ≠ 0 ∧ o = ([], (alR hh (runsP r) [] (runsP l)).2)) ∨ ((alR hh (runsP r) [] (runsP l)).2 = 0 ∧ NormIs (alR hh (runsP r) [] (runsP l)).1 o)))
def alo.T18 : Bool × List (List Nat × List Nat) := (true, [([], []), ([], []), ([], []), ([1, 2], [1, 2]), ([0, 3, 3], [0, 3]), ([4, 4, 0, 1, 2, 3, 4], [4])])
def alo.B18 : List Nat := [0, 0, 0, 6, 15, 31]
theorem alo.tab18 : rtab .any (opsOf Tryz.f44 18) = alo.T18 := by kernel_rfl
theorem alo.bits18 : waitsOk alo.T18.2 alo.B18 = true := by kernel_rfl
theorem Alone_calls (hh : List Vl → Bool × Int) (ef : Int) (A0 A1 A2 : Option Addr) (c0 c1 c2 : Nat) (l r : List EdP) (x : List Op8) (w : World) (hr0 : Kd.C kE w A0 l.length l) (hrow : ∀ e ∈ l, e.f0.length ≤ 4398046511104)
  (hr1 : Kd.C kE w A1 r.length r) (hrow1 : ∀ e ∈ r, e.f0.length ≤ 4398046511104)
  (hr2 : Kd.C kO w A2 x.length x) (hc2 : x.length ≤ c2) (hhk : ∀ a b, a ∈ runsP l → b ∈ runsP r → (joinV a.1 b.1).2 = 0 → ∃ k, eval_Holds.f k x (joinV a.1 b.1).1 = some (hh (joinV a.1 b.1).1)) (hfk : ∃ k, expr_Form.f k x = some ef) :
  Calls Tryz.prog 44 #[.slice A0 l.length c0, .slice A1 r.length c1, .slice A2 x.length c2] w fun e w' => ∃ v o, AloneIs hh ef l r o ∧ e = .returned (.tuple #[v, .int .i64 o.2]) ∧ Kd.R kE tE w' w.heap.size (fun _ => True) v o.1 ∧ Below w.heap.size w w' := by
 have hu22 : Tryz.prog.underlying 22 = some (.slice 41) := by kernel_rfl
 have GC := Lib.hid (Groups_calls A0 c0 l.length); have MA := Lib.hid (fun (w1 : World) (h : Below w.heap.size w w1) => May_calls A0 c0 l w1 (Kd.C_below hr0 h) hrow); have MB := Lib.hid (fun (w1 : World) (h : Below w.heap.size w w1) => May_calls A1 c1 r w1 (Kd.C_below hr1 h) hrow1); have TA := Lib.hid (fun (w1 : World) (h : Below w.heap.size w w1) => Table_calls A0 c0 l w1 (Kd.C_below hr0 h) hrow); have TB := Lib.hid (fun (w1 : World) (h : Below w.heap.size w w1) => Table_calls A1 c1 r w1 (Kd.C_below hr1 h) hrow1); have FC := Lib.hid (fun (w1 : World) (h : Below w.heap.size w w1) => (show Calls Tryz.prog 47 #[.slice A2 x.length c2] w1 fun e w' => e = .returned (.int .i64 ef) ∧ Below w1.heap.size w1 w' from hfk.elim fun k hk => expr_Form.calls k A2 c2 x ef w1 (Kd.C_below hr2 h) hc2 hk)); have HR := Lib.hid hr0; have HRR := Lib.hid (fun (w1 : World) (h : Below w.heap.size w w1) => Kd.C_below hr1 h); have HRX := Lib.hid (fun (w1 : World) (h : Below w.heap.size w w1) => Kd.C_below hr2 h); have HCX := Lib.hid hc2; have HRW := Lib.hid hrow; have HRV := Lib.hid hrow1; have HHK := Lib.hid hhk; have HPI := Lib.hid (fun o (h : AloneIs hh ef l r o) => h); clear hr0 hr1 hr2 hrow hrow1 hhk hfk hc2; refine (callsIn_wide (n := 40)).1 ?_; refine callsIn_of_wp_marks Tryz.func44 rfl trivial ?_ rfl; simp only [Tryz.ntmps44, List.size_toArray, List.length_cons, List.length_nil, Nat.reduceAdd, Nat.reduceSub, Array.replicate_succ, Array.replicate_zero, List.push_toArray, List.append_toArray, List.nil_append, List.cons_append]; gi_wp2; obtain ⟨W1, hW1⟩ : ∃ W1, (((w.alloc (.cells #[.slice A1 r.length c1] 22 (0, 0))).alloc (.cells #[.slice A2 x.length c2] 24 (0, 0))).alloc (.cells #[.slice none 0 0] 22 (0, 0))).alloc (.cells #[.int .i64 0] 27 (0, 0)) = W1 := ⟨_, rfl⟩
 have hsW1 : W1.heap.size = w.heap.size + 4 := by rw [← hW1]; simp
 have hbW1 : Below w.heap.size w W1 := by rw [← hW1]; exact below_alloc (below_alloc (below_alloc (below_alloc (Below.refl _ w) _) _) _) _
 have bx2 : W1.heap[w.heap.size]? = some (.cells #[.slice A1 r.length c1] 22 (0, 0)) := by
  have h1 := blk_new (w) (.cells #[.slice A1 r.length c1] 22 (0, 0)); rw [← hW1]; exact blk_alloc (blk_alloc (blk_alloc (h1) _) _) _
 have bx3 : W1.heap[w.heap.size + 1]? = some (.cells #[.slice A2 x.length c2] 24 (0, 0)) := by
  have h1 := blk_new (w.alloc (.cells #[.slice A1 r.length c1] 22 (0, 0))) (.cells #[.slice A2 x.length c2] 24 (0, 0)); rw [World.size_alloc] at h1; rw [← hW1]; exact blk_alloc (blk_alloc (h1) _) _
 have bx4 : W1.heap[w.heap.size + 1 + 1]? = some (.cells #[.slice none 0 0] 22 (0, 0)) := by
  have h1 := blk_new ((w.alloc (.cells #[.slice A1 r.length c1] 22 (0, 0))).alloc (.cells #[.slice A2 x.length c2] 24 (0, 0))) (.cells #[.slice none 0 0] 22 (0, 0)); rw [World.size_alloc, World.size_alloc] at h1; rw [← hW1]; exact blk_alloc (h1) _
 have bx5 : W1.heap[w.heap.size + 1 + 1 + 1]? = some (.cells #[.int .i64 0] 27 (0, 0)) := by
  have h1 := blk_new (((w.alloc (.cells #[.slice A1 r.length c1] 22 (0, 0))).alloc (.cells #[.slice A2 x.length c2] 24 (0, 0))).alloc (.cells #[.slice none 0 0] 22 (0, 0))) (.cells #[.int .i64 0] 27 (0, 0)); rw [World.size_alloc, World.size_alloc, World.size_alloc] at h1; rw [← hW1]; exact h1
 rw [hW1]; refine ⟨trivial, ?_⟩; refine (callsIn_wide.2 (MA.out W1 hbW1)).mono ?_; rintro e w2 ⟨rfl, hb2⟩; have HB2 := Lib.hid (hbW1.trans (hb2.mono hbW1.size)); have HSW := Lib.hid (show w.heap.size + 4 ≤ w2.heap.size by have := hb2.size; omega); have HX2 := Lib.hid (Boxed.below (W := W1) (B := w.heap.size) (t := 22) (v := .slice A1 r.length c1) bx2 hb2); have HX3 := Lib.hid (Boxed.below (W := W1) (B := w.heap.size + 1) (t := 24) (v := .slice A2 x.length c2) bx3 hb2); have HX4 := Lib.hid (Boxed.below (W := W1) (B := w.heap.size + 1 + 1) (t := 22) (v := .slice none 0 0) bx4 hb2); have HX5 := Lib.hid (Boxed.below (W := W1) (B := w.heap.size + 1 + 1 + 1) (t := 27) (v := .int .i64 0) bx5 hb2); clear hW1 hsW1 hbW1 bx2 bx3 bx4 bx5 hb2; obtain ⟨m, hm⟩ : ∃ m, mayE l = m := ⟨_, rfl⟩
 rw [hm]; cases m with
 | false =>
  have HO := Lib.hid (HPI.out ([], 2) (.inl ⟨by rw [hm]; rfl, rfl⟩)); have cl4 := HX4.out.cell; have fr4 := HX4.out.frozen; have HX5' := Lib.hid (Boxed.other HX5.out (B' := w.heap.size + 1 + 1) zq4 (.slice none 0 0)); have cl5 := HX5'.out.cell; have fr5 := HX5'.out.frozen; have HZ4 := Lib.hid (Boxed.other (HX4.out.set (.slice none 0 0)) (B' := w.heap.size + 1 + 1 + 1) zq4 (.int .i64 2)); have HZ5 := Lib.hid (HX5'.out.set (.int .i64 2)); have HZB := Lib.hid (Below.setCell (Below.setCell HB2.out (p := ⟨w.heap.size + 1 + 1, 0, none⟩) zq52 (.slice none 0 0)) (p := ⟨w.heap.size + 1 + 1 + 1, 0, none⟩) (by show _ ≤ w.heap.size + 1 + 1 + 1; omega) (.int .i64 2)); clear hm; gi_wp2
  rename_i hk
  refine ⟨trivial, hk _ _ ?_⟩; clear hk; gi_wp2; exact ⟨_, results_c2 rfl _ _ _ rfl HZ4.out.cell (oneC_slice hu22) rfl HZ5.out.cell (oneC_int Tryz.underlying27), _, _, HO.out, rfl, Kd.R_nil _ _ _ _ _, HZB.out⟩
 | true =>
 have HM0 := Lib.hid hm; have cl2 := HX2.out.cell; clear hm; gi_wp2; refine ⟨trivial, ?_⟩; refine (callsIn_wide.2 (MB.out _ HB2.out)).mono ?_; rintro e w3 ⟨rfl, hb3⟩; clear cl2; have HB9 := Lib.hid (HB2.out.trans (hb3.mono HB2.out.size)); have HSW9 := Lib.hid (show w.heap.size + 4 ≤ w3.heap.size by have := hb3.size; have := HSW.out; omega); have HY2 := Lib.hid (Boxed.below HX2.out hb3); have HY3 := Lib.hid (Boxed.below HX3.out hb3); have HY4 := Lib.hid (Boxed.below HX4.out hb3); have HY5 := Lib.hid (Boxed.below HX5.out hb3); clear hb3 HX2 HX3 HX4 HX5 HB2 HSW; have HX2 := HY2; have HX3 := HY3; have HX4 := HY4; have HX5 := HY5; have HB2 := HB9; have HSW := HSW9; clear HY2 HY3 HY4 HY5 HB9 HSW9; obtain ⟨m, hm⟩ : ∃ m, mayE r = m := ⟨_, rfl⟩
 rw [hm]; cases m with
 | false =>
  have HO := Lib.hid (HPI.out ([], 2) (.inl ⟨by rw [hm, Bool.and_false], rfl⟩)); have cl4 := HX4.out.cell; have fr4 := HX4.out.frozen; have HX5' := Lib.hid (Boxed.other HX5.out (B' := w.heap.size + 1 + 1) zq4 (.slice none 0 0)); have cl5 := HX5'.out.cell; have fr5 := HX5'.out.frozen; have HZ4 := Lib.hid (Boxed.other (HX4.out.set (.slice none 0 0)) (B' := w.heap.size + 1 + 1 + 1) zq4 (.int .i64 2)); have HZ5 := Lib.hid (HX5'.out.set (.int .i64 2)); have HZB := Lib.hid (Below.setCell (Below.setCell HB2.out (p := ⟨w.heap.size + 1 + 1, 0, none⟩) zq52 (.slice none 0 0)) (p := ⟨w.heap.size + 1 + 1 + 1, 0, none⟩) (by show _ ≤ w.heap.size + 1 + 1 + 1; omega) (.int .i64 2)); clear hm; gi_wp2; exact ⟨_, results_c2 rfl _ _ _ rfl HZ4.out.cell (oneC_slice hu22) rfl HZ5.out.cell (oneC_int Tryz.underlying27), _, _, HO.out, rfl, Kd.R_nil _ _ _ _ _, HZB.out⟩
 | true =>
 have HM1 := Lib.hid hm; have HMM := Lib.hid (show (mayE l && mayE r) = true by rw [HM0.out, hm]; rfl); clear hm; gi_wp2; refine ⟨trivial, ?_⟩; refine (callsIn_wide.2 (TA.out _ HB2.out)).mono ?_; rintro e w4 ⟨rfl, hb3⟩; have HB9 := Lib.hid (HB2.out.trans (hb3.mono HB2.out.size)); have HSW9 := Lib.hid (show w.heap.size + 4 ≤ w4.heap.size by have := hb3.size; have := HSW.out; omega); have HY2 := Lib.hid (Boxed.below HX2.out hb3); have HY3 := Lib.hid (Boxed.below HX3.out hb3); have HY4 := Lib.hid (Boxed.below HX4.out hb3); have HY5 := Lib.hid (Boxed.below HX5.out hb3); clear hb3 HX2 HX3 HX4 HX5 HB2 HSW; have HX2 := HY2; have HX3 := HY3; have HX4 := HY4; have HX5 := HY5; have HB2 := HB9; have HSW := HSW9; clear HY2 HY3 HY4 HY5 HB9 HSW9; obtain ⟨m, hm⟩ : ∃ m, tableE l = m := ⟨_, rfl⟩
 rw [hm]; cases m with
 | false =>
  have HO := Lib.hid (HPI.out ([], 20) (.inr (.inl ⟨HMM.out, by rw [hm]; rfl, rfl⟩))); have cl4 := HX4.out.cell; have fr4 := HX4.out.frozen; have HX5' := Lib.hid (Boxed.other HX5.out (B' := w.heap.size + 1 + 1) zq4 (.slice none 0 0)); have cl5 := HX5'.out.cell; have fr5 := HX5'.out.frozen; have HZ4 := Lib.hid (Boxed.other (HX4.out.set (.slice none 0 0)) (B' := w.heap.size + 1 + 1 + 1) zq4 (.int .i64 20)); have HZ5 := Lib.hid (HX5'.out.set (.int .i64 20)); have HZB := Lib.hid (Below.setCell (Below.setCell HB2.out (p := ⟨w.heap.size + 1 + 1, 0, none⟩) zq52 (.slice none 0 0)) (p := ⟨w.heap.size + 1 + 1 + 1, 0, none⟩) (by show _ ≤ w.heap.size + 1 + 1 + 1; omega) (.int .i64 20)); clear hm; gi_wp2
  rename_i hk
  refine ⟨trivial, hk _ _ ?_⟩; clear hk; gi_wp2; exact ⟨_, results_c2 rfl _ _ _ rfl HZ4.out.cell (oneC_slice hu22) rfl HZ5.out.cell (oneC_int Tryz.underlying27), _, _, HO.out, rfl, Kd.R_nil _ _ _ _ _, HZB.out⟩
 | true =>
 have HT0 := Lib.hid hm; have cl2 := HX2.out.cell; clear hm; gi_wp2; refine ⟨trivial, ?_⟩; refine (callsIn_wide.2 (TB.out _ HB2.out)).mono ?_; rintro e w5 ⟨rfl, hb3⟩; clear cl2; have HB9 := Lib.hid (HB2.out.trans (hb3.mono HB2.out.size)); have HSW9 := Lib.hid (show w.heap.size + 4 ≤ w5.heap.size by have := hb3.size; have := HSW.out; omega); have HY2 := Lib.hid (Boxed.below HX2.out hb3); have HY3 := Lib.hid (Boxed.below HX3.out hb3); have HY4 := Lib.hid (Boxed.below HX4.out hb3); have HY5 := Lib.hid (Boxed.below HX5.out hb3); clear hb3 HX2 HX3 HX4 HX5 HB2 HSW; have HX2 := HY2; have HX3 := HY3; have HX4 := HY4; have HX5 := HY5; have HB2 := HB9; have HSW := HSW9; clear HY2 HY3 HY4 HY5 HB9 HSW9; obtain ⟨m, hm⟩ : ∃ m, tableE r = m := ⟨_, rfl⟩
 rw [hm]; cases m with
 | false =>
  have HO := Lib.hid (HPI.out ([], 20) (.inr (.inl ⟨HMM.out, by rw [hm, Bool.and_false], rfl⟩))); have cl4 := HX4.out.cell; have fr4 := HX4.out.frozen; have HX5' := Lib.hid (Boxed.other HX5.out (B' := w.heap.size + 1 + 1) zq4 (.slice none 0 0)); have cl5 := HX5'.out.cell; have fr5 := HX5'.out.frozen; have HZ4 := Lib.hid (Boxed.other (HX4.out.set (.slice none 0 0)) (B' := w.heap.size + 1 + 1 + 1) zq4 (.int .i64 20)); have HZ5 := Lib.hid (HX5'.out.set (.int .i64 20)); have HZB := Lib.hid (Below.setCell (Below.setCell HB2.out (p := ⟨w.heap.size + 1 + 1, 0, none⟩) zq52 (.slice none 0 0)) (p := ⟨w.heap.size + 1 + 1 + 1, 0, none⟩) (by show _ ≤ w.heap.size + 1 + 1 + 1; omega) (.int .i64 20)); clear hm; gi_wp2; exact ⟨_, results_c2 rfl _ _ _ rfl HZ4.out.cell (oneC_slice hu22) rfl HZ5.out.cell (oneC_int Tryz.underlying27), _, _, HO.out, rfl, Kd.R_nil _ _ _ _ _, HZB.out⟩
 | true =>
 have HTT := Lib.hid (show (tableE l && tableE r) = true by rw [HT0.out, hm]; rfl); have cl3 := HX3.out.cell; clear hm; gi_wp2; refine ⟨trivial, ?_⟩; refine (callsIn_wide.2 (FC.out _ HB2.out)).mono ?_; rintro e w6 ⟨rfl, hb3⟩; clear cl3; have HB9 := Lib.hid (HB2.out.trans (hb3.mono HB2.out.size)); have HSW9 := Lib.hid (show w.heap.size + 4 ≤ w6.heap.size by have := hb3.size; have := HSW.out; omega); have HY2 := Lib.hid (Boxed.below HX2.out hb3); have HY3 := Lib.hid (Boxed.below HX3.out hb3); have HY4 := Lib.hid (Boxed.below HX4.out hb3); have HY5 := Lib.hid (Boxed.below HX5.out hb3); clear hb3 HX2 HX3 HX4 HX5 HB2 HSW; have HX2 := HY2; have HX3 := HY3; have HX4 := HY4; have HX5 := HY5; have HB2 := HB9; have HSW := HSW9; clear HY2 HY3 HY4 HY5 HB9 HSW9
 by_cases hef : ef = 0
 case neg =>
  have be : (ef == 0) = false := beq_eq_false_iff_ne.2 hef; have HO := Lib.hid (HPI.out ([], ef) (.inr (.inr (.inl ⟨HMM.out, HTT.out, hef, rfl⟩)))); have cl4 := HX4.out.cell; have fr4 := HX4.out.frozen; have HX5' := Lib.hid (Boxed.other HX5.out (B' := w.heap.size + 1 + 1) zq4 (.slice none 0 0)); have cl5 := HX5'.out.cell; have fr5 := HX5'.out.frozen; have HZ4 := Lib.hid (Boxed.other (HX4.out.set (.slice none 0 0)) (B' := w.heap.size + 1 + 1 + 1) zq4 (.int .i64 ef)); have HZ5 := Lib.hid (HX5'.out.set (.int .i64 ef)); have HZB := Lib.hid (Below.setCell (Below.setCell HB2.out (p := ⟨w.heap.size + 1 + 1, 0, none⟩) zq52 (.slice none 0 0)) (p := ⟨w.heap.size + 1 + 1 + 1, 0, none⟩) (by show _ ≤ w.heap.size + 1 + 1 + 1; omega) (.int .i64 ef)); clear hef; gi_wp2; exact ⟨_, results_c2 rfl _ _ _ rfl HZ4.out.cell (oneC_slice hu22) rfl HZ5.out.cell (oneC_int Tryz.underlying27), _, _, HO.out, rfl, Kd.R_nil _ _ _ _ _, HZB.out⟩
 case pos =>
 subst hef
 gi_wp2_with (refine ⟨trivial, ?_⟩; (with_reducible refine (callsIn_wide.2 (GC.out _)).mono ?_); rintro e w5 ⟨rfl, rfl⟩)
 obtain ⟨W7, hW7⟩ : ∃ W7, (w6.alloc (.cells #[] 41 (0, 0))).alloc (.cells #[.slice (some ⟨w6.heap.size, 0, none⟩) 0 0] 22 (0, 0)) = W7 := ⟨_, rfl⟩
 have hsW7 : W7.heap.size = w6.heap.size + 2 := by rw [← hW7]; simp
 have hbW7 : Below w6.heap.size w6 W7 := by rw [← hW7]; exact below_alloc (below_alloc (Below.refl _ w6) _) _
 have bk0 : W7.heap[w6.heap.size]? = some (.cells #[] 41 (0, 0)) := by
  have h1 := blk_new (w6) (.cells #[] 41 (0, 0)); rw [← hW7]; exact blk_alloc (h1) _
 have bx7 : W7.heap[w6.heap.size + 1]? = some (.cells #[.slice (some ⟨w6.heap.size, 0, none⟩) 0 0] 22 (0, 0)) := by
  have h1 := blk_new (w6.alloc (.cells #[] 41 (0, 0))) (.cells #[.slice (some ⟨w6.heap.size, 0, none⟩) 0 0] 22 (0, 0)); rw [World.size_alloc] at h1; rw [← hW7]; exact h1
 have hit := groups_iter 39 zq4 A0 c0 l w W7 HR.out (HB2.out.trans (hbW7.mono HB2.out.size)) HM0.out HRW.out; obtain ⟨its, hits⟩ : ∃ x, runsP l = x := ⟨_, rfl⟩
 have HIL := Lib.hid (show its.length ≤ 4096 by rw [← hits]; exact Nat.le_trans (runs_len l) (mayE_len HM0.out)); have HHQ := Lib.hid (fun a b (ha : a ∈ its) (hb : b ∈ runsP r) => HHK.out a b (by rw [hits]; exact ha) hb); rw [hits] at hit; have HBI := Lib.hid (fun o (h : (((alR hh (runsP r) [] its).2 ≠ 0 ∧ o = ([], (alR hh (runsP r) [] its).2)) ∨ ((alR hh (runsP r) [] its).2 = 0 ∧ NormIs (alR hh (runsP r) [] its).1 o))) => HPI.out o (.inr (.inr (.inr ⟨⟨HMM.out, HTT.out, rfl⟩, by rw [hits]; exact h⟩)))); have e7 : w6.heap.size + 1 + 1 = W7.heap.size := by omega
 rw [hW7, e7]; obtain ⟨W8, hW8⟩ : ∃ W8, W7.alloc (.cells #[.slice A0 l.length c0] 22 (0, 0)) = W8 := ⟨_, rfl⟩
 have HS7 := Lib.hid hsW7; have HS8 := Lib.hid (show W8.heap.size = w6.heap.size + 3 by rw [← hW8, World.size_alloc, hsW7]); have hb8 : Below w6.heap.size w6 W8 := by rw [← hW8]; exact below_alloc hbW7 _
 have HB8 := Lib.hid (HB2.out.trans (hb8.mono HB2.out.size)); have HSW6 := Lib.hid (show w.heap.size + 4 ≤ w6.heap.size from HSW.out); have HZ2 := Lib.hid (Boxed.below HX2.out hb8); have HZ3 := Lib.hid (Boxed.below HX3.out hb8); have HZ4 := Lib.hid (Boxed.below HX4.out hb8); have HZ5 := Lib.hid (Boxed.below HX5.out hb8); have HZ7 := Lib.hid (show Boxed W8 (w6.heap.size + 1) 22 (.slice (some ⟨w6.heap.size, 0, none⟩) 0 0) by rw [← hW8]; exact blk_alloc bx7 _); have HO8 := Lib.hid (show Kd.R kE tE W8 w.heap.size (fun _ => True) (.slice (some ⟨w6.heap.size, 0, none⟩) 0 0) [] from ⟨fun _ _ => trivial, [], ⟨rfl, .inr ⟨w6.heap.size, 0, #[], rfl, by have := HSW6.out; omega, by rw [← hW8]; exact blk_alloc bk0 _, Nat.le_refl _, Nat.zero_le _, rfl, rfl⟩⟩, Reps.none _ _⟩); rw [hW8] at hit ⊢; have HIT := Lib.hid hit; clear hW7 hW8 hsW7 hbW7 bk0 bx7 hit e7 hits hb8 HX2 HX3 HX4 HX5 HSW HB2; have hS0 : ∀ b, (fun b => OwnS (w6.heap.size + 1) (.slice (some ⟨w6.heap.size, 0, none⟩) 0 0) b ∨ (b = w.heap.size + 1 + 1 ∨ b = w.heap.size + 1 + 1 + 1)) b → ¬ (b < w.heap.size ∨ b = W7.heap.size) ∧ b < W8.heap.size := by
  intro b hb; have h1 := HS7.out; have h2 := HS8.out; have h3 := HSW6.out
  rcases hb with (rfl | hb) | hb
  ·omega
  ·have : w6.heap.size = b := by simpa [Value.ownBlock] using hb
   omega
  ·omega
 refine range_outer (F := Fence.wide) rfl zq4 (gf := 84) (lb := #[.pointer (some ⟨W7.heap.size, 0, none⟩)]) rfl trivial (enters_of Tryz.func84 zq17 rfl) HIT.out (Keeps.refl _ _) (fun x args W h => by obtain ⟨_, _, _, _, rfl, _⟩ := h; rfl)
  (fun k S W => ∃ v out, S = (fun b => OwnS (w6.heap.size + 1) (v) b ∨ (b = w.heap.size + 1 + 1 ∨ b = w.heap.size + 1 + 1 + 1)) ∧ (Boxed W (w.heap.size) 22 (.slice A1 r.length c1) ∧ Boxed W (w.heap.size + 1) 24 (.slice A2 x.length c2) ∧ Boxed W (w.heap.size + 1 + 1) 22 (.slice none 0 0) ∧ Boxed W (w.heap.size + 1 + 1 + 1) 27 (.int .i64 0)) ∧
   Boxed W (w6.heap.size + 1) 22 v ∧ Kd.R kE tE W w.heap.size (fun _ => True) v out ∧ Below w.heap.size w W ∧ (out.length ≤ k * 1024 ∧ alR hh (runsP r) [] its = alR hh (runsP r) out (its.drop k)))
  (fun c S W => c = .ret ∧ ∃ e, Boxed W (w.heap.size + 1 + 1) 22 (.slice none 0 0) ∧ Boxed W (w.heap.size + 1 + 1 + 1) 27 (.int .i64 e) ∧ Below w.heap.size w W ∧ alR hh (runsP r) [] its = ([], e) ∧ e ≠ 0)
  (fun y args a' W => ∃ Aq cq Aj cj, args = #[.slice Aq y.1.length cq, .slice Aj y.2.length cj] ∧ a' = { tmps := #[.slice A0 l.length c0, .slice A1 r.length c1, .slice A2 x.length c2, undef, .pointer (some ⟨w.heap.size, 0, none⟩), .pointer (some ⟨w.heap.size + 1, 0, none⟩), .pointer (some ⟨w.heap.size + 1 + 1, 0, none⟩), .pointer (some ⟨w.heap.size + 1 + 1 + 1, 0, none⟩), .int .i64 0, .pointer (some ⟨w6.heap.size + 1, 0, none⟩), .slice Aq y.1.length cq, .slice Aj y.2.length cj, undef, undef, undef, .bool false, .slice A0 l.length c0, .bool true, .bool false, .bool false, .slice A1 r.length c1, .bool true, .bool false, .bool false, .bool false, .slice A0 l.length c0, .bool true, .bool false, .bool false, .slice A1 r.length c1, .bool true, .bool false, .bool false, .slice A2 x.length c2, .int .i64 0, .int .i64 0, .bool false, undef, .slice (some ⟨w6.heap.size, 0, none⟩) 0 0, .slice A0 l.length c0, .func (.func 84) #[] #[.pointer (some ⟨W7.heap.size, 0, none⟩)], .slice Aq y.1.length cq, .slice Aj y.2.length cj, undef, undef, undef, undef, undef, undef, undef, undef, undef, undef, undef, undef, undef, undef, undef, undef, undef, undef, undef, undef, undef, undef, undef, undef, undef, undef, undef, undef, undef], defers := [] })
  (fun k S => Grow.ex fun v => Grow.ex fun out => (Grow.const _ _).and (((Grow.boxed _ _ _ _).and ((Grow.boxed _ _ _ _).and ((Grow.boxed _ _ _ _).and (Grow.boxed _ _ _ _)))).and ((Grow.boxed _ _ _ _).and ((Grow.R _ _ _ _ _ _).and ((Grow.base (by have := HS8.out; have := HSW6.out; omega) w (Nat.le_refl _)).and (Grow.const _ _))))))
  (fun c S => (Grow.const _ _).and (Grow.ex fun e => (Grow.boxed _ _ _ _).and ((Grow.boxed _ _ _ _).and ((Grow.base (by have := HS8.out; have := HSW6.out; omega) w (Nat.le_refl _)).and (Grow.const _ _))))) (fun y args => Grow.phi _ _ _)
  (fun y args a' => Grow.const _ _)
  (fun b => OwnS (w6.heap.size + 1) (.slice (some ⟨w6.heap.size, 0, none⟩) 0 0) b ∨ (b = w.heap.size + 1 + 1 ∨ b = w.heap.size + 1 + 1 + 1)) hS0 ⟨_, [], rfl, ⟨HZ2.out, HZ3.out, HZ4.out, HZ5.out⟩, HZ7.out, HO8.out, HB8.out, Nat.zero_le _, by rw [List.drop_zero]⟩ ?assign ?body ?done ?stop
 case assign =>
  rintro l' k S y args W K hx hi ⟨Aq, cq, Aj, cj, rfl, hphi⟩ hK; clear hi hphi; gi_wp2; exact hK _ _ (Below.refl _ W) ⟨Aq, cq, Aj, cj, rfl, rfl⟩
 case body =>
  rintro l' k S y args a' W hl' ⟨r0, hr0⟩ hx hSb hSl hkR ⟨v, out, rfl, ⟨bx2, bx3, bx4, bx5⟩, bx7, hRo, hBW, hout, hEE⟩ ⟨Aq, cq, Aj, cj, he1, hRr, hRj⟩ ⟨Aq2, cq2, Aj2, cj2, he2, rfl⟩; rw [he1] at he2; cases he2; have HH := Lib.hid (alR_drop hh (runsP r) out its k y hx); have hym := List.mem_of_getElem? hx; have HK := Lib.hid (show k < 4096 by have h1 := (List.getElem?_eq_some_iff.1 hx).1; have := HIL.out; omega); have HV := Lib.hid (partners_calls hh y Aq Aj A1 A2 cq cj c1 c2 r x W hRr hRj (HRR.out W hBW) HRV.out HM1.out (HRX.out W hBW) HCX.out (fun z hz => HHQ.out y z hym hz)); obtain ⟨⟨pv, ep⟩, hpv⟩ : ∃ z, partsR hh y [] (runsP r) = z := ⟨_, rfl⟩
  rw [hpv] at HV HH; have HWH := Lib.hid (fun (A : Option Addr) (c : Nat) (W1 : World) (h : Below W.heap.size W W1) (hR : Kd.R kJ tJ W1 W.heap.size (fun _ => True) (.slice A pv.length c) pv) => Where_calls Aj A cj c y.2 pv W1 (Kd.R_reads' (Kd.R_below hRj h)).2.2 (Kd.R_reads' hRj).2.1 (Kd.R_reads' hR).2.2 (Kd.R_reads' hR).2.1); obtain ⟨⟨gv, eg⟩, hgv⟩ : ∃ z, bothV whereO y.2 pv = z := ⟨_, rfl⟩
  have HWH2 := Lib.hid (fun A c W1 h hR => by have := HWH.out A c W1 h hR; unfold BothIs at this; rw [hgv] at this; exact this); simp only at HH; rw [hgv] at HH; have HBD := Lib.hid (fun (A : Option Addr) (c : Nat) (W1 : World) (h : Below W.heap.size W W1) (hR : Kd.R kJ tJ W1 0 (fun _ => True) (.slice A gv.length c) gv) => Build_calls Aq cq y.1 A c gv W1 (Kd.R_below hRr h) hR); have HBX2 := Lib.hid bx2; have HBX3 := Lib.hid bx3; have HBX4 := Lib.hid bx4; have HBX5 := Lib.hid bx5; have HBX7 := Lib.hid bx7; have HRO := Lib.hid hRo; have HBW := Lib.hid hBW; have HEE := Lib.hid hEE; have HOUT := Lib.hid hout; have HSB := Lib.hid hSb; have cl2 := bx2.cell; have cl3 := bx3.cell; obtain ⟨nq, hnq⟩ : ∃ n, y.1.length = n := ⟨_, rfl⟩
  obtain ⟨nj, hnj⟩ : ∃ n, y.2.length = n := ⟨_, rfl⟩
  rw [hnq, hnj] at HV ⊢; rw [hnj] at HWH2; rw [hnq] at HBD; clear hRr hRj bx2 bx3 bx4 bx5 bx7 hBW hEE hx he1 hSb hSl hkR hr0 hl' hRo hout hym hpv hgv HWH hnq hnj; gi_wp2; refine ⟨trivial, ?_⟩; refine (CallsIn.inRound l' (callsIn_wide.2 HV.out)).mono ?_; rintro e w9 ⟨vp, rfl, hRp, hb9⟩; obtain ⟨Ap, cp, rfl⟩ := Kd.R_slice hRp; have HBQ := Lib.hid hb9; have HW9 := Lib.hid (HWH2.out Ap cp w9 hb9 hRp); have HQ2 := Lib.hid (Boxed.below HBX2.out hb9); have HQ3 := Lib.hid (Boxed.below HBX3.out hb9); have HQ4 := Lib.hid (Boxed.below HBX4.out hb9); have HQ5 := Lib.hid (Boxed.below HBX5.out hb9); have HQ7 := Lib.hid (Boxed.below HBX7.out hb9); clear hRp hb9 cl2 cl3 HV HWH2 HBX2 HBX3 HBX4 HBX5 HBX7; simp only
  by_cases hep : ep = 0
  case neg =>
   have HH2 := Lib.hid (show alR hh (runsP r) [] its = ([], ep) by rw [HEE.out, HH.out, if_pos hep]); have be : (ep == 0) = false := beq_eq_false_iff_ne.2 hep; have HNE := Lib.hid hep; clear hep; have q4 := HQ4.out.cell; have f4 := HQ4.out.frozen; have HQ5' := Lib.hid (Boxed.other HQ5.out (B' := w.heap.size + 1 + 1) zq4 (.slice none 0 0)); have q5 := HQ5'.out.cell; have f5 := HQ5'.out.frozen; have HE1 := Lib.hid (((Step.of_below (S := (fun b => OwnS (w6.heap.size + 1) v b ∨ (b = w.heap.size + 1 + 1 ∨ b = w.heap.size + 1 + 1 + 1))) HBQ.out).trans (step_set (.inr (.inl rfl)) (.slice none 0 0))).trans (step_set (.inr (.inr rfl)) (.int .i64 ep))); have HE14 := Lib.hid (Boxed.other (HQ4.out.set (.slice none 0 0)) (B' := w.heap.size + 1 + 1 + 1) zq4 (.int .i64 ep)); have HE15 := Lib.hid (HQ5'.out.set (.int .i64 ep)); have HE1W := Lib.hid (Below.setCell (Below.setCell (HBW.out.trans (HBQ.out.mono HBW.out.size)) (p := ⟨w.heap.size + 1 + 1, 0, none⟩) zq52 (.slice none 0 0)) (p := ⟨w.heap.size + 1 + 1 + 1, 0, none⟩) (by show _ ≤ w.heap.size + 1 + 1 + 1; omega) (.int .i64 ep)); gi_wp2
   first
    | exact ⟨_, HE1.out, fun b hb => Nat.lt_of_lt_of_le (HSB.out b hb) HE1.out.size, rfl, HE14.out, ep, HE15.out, HE1W.out, HH2.out, HNE.out⟩
    | exact ⟨_, HE1.out, fun b hb => Nat.lt_of_lt_of_le (HSB.out b hb) HE1.out.size, rfl, ep, HE14.out, HE15.out, HE1W.out, HH2.out, HNE.out⟩
  case pos =>
  have HH3 := Lib.hid (show alR hh (runsP r) [] its = if eg ≠ 0 then ([], eg) else alR hh (runsP r) (out ++ buildP y.1 gv) (its.drop (k + 1)) by rw [HEE.out, HH.out, if_neg (by simp [hep])]); subst hep; obtain ⟨np, hnp⟩ : ∃ n, pv.length = n := ⟨_, rfl⟩
  rw [hnp] at HW9 ⊢; clear hnp HH HEE; gi_wp2; refine ⟨trivial, ?_⟩; refine (CallsIn.inRound l' (callsIn_wide.2 HW9.out)).mono ?_; rintro e w10 ⟨vg, rfl, hRg, hb10⟩; obtain ⟨Ag, cg, rfl⟩ := Kd.R_slice hRg; have HRG := Lib.hid (Kd.R_lower hRg (Nat.zero_le _)); have HBQ' := Lib.hid (HBQ.out.trans (hb10.mono HBQ.out.size)); have HP2 := Lib.hid (Boxed.below HQ2.out hb10); have HP3 := Lib.hid (Boxed.below HQ3.out hb10); have HP4 := Lib.hid (Boxed.below HQ4.out hb10); have HP5 := Lib.hid (Boxed.below HQ5.out hb10); have HP7 := Lib.hid (Boxed.below HQ7.out hb10); clear hRg hb10 HW9 HBQ HQ2 HQ3 HQ4 HQ5 HQ7; have HBQ := HBQ'; have HQ2 := HP2; have HQ3 := HP3; have HQ4 := HP4; have HQ5 := HP5; have HQ7 := HP7; clear HBQ' HP2 HP3 HP4 HP5 HP7; have HRG := Lib.hid (show Kd.R kJ tJ w10 0 (fun _ => True) (.slice Ag gv.length cg) gv from HRG.out); simp only
  by_cases heg : eg = 0
  case neg =>
   have HH2 := Lib.hid (show alR hh (runsP r) [] its = ([], eg) by rw [HH3.out, if_pos heg]); have be : (eg == 0) = false := beq_eq_false_iff_ne.2 heg; have HNE := Lib.hid heg; clear heg; have q4 := HQ4.out.cell; have f4 := HQ4.out.frozen; have HQ5' := Lib.hid (Boxed.other HQ5.out (B' := w.heap.size + 1 + 1) zq4 (.slice none 0 0)); have q5 := HQ5'.out.cell; have f5 := HQ5'.out.frozen; have HE1 := Lib.hid (((Step.of_below (S := (fun b => OwnS (w6.heap.size + 1) v b ∨ (b = w.heap.size + 1 + 1 ∨ b = w.heap.size + 1 + 1 + 1))) HBQ.out).trans (step_set (.inr (.inl rfl)) (.slice none 0 0))).trans (step_set (.inr (.inr rfl)) (.int .i64 eg))); have HE14 := Lib.hid (Boxed.other (HQ4.out.set (.slice none 0 0)) (B' := w.heap.size + 1 + 1 + 1) zq4 (.int .i64 eg)); have HE15 := Lib.hid (HQ5'.out.set (.int .i64 eg)); have HE1W := Lib.hid (Below.setCell (Below.setCell (HBW.out.trans (HBQ.out.mono HBW.out.size)) (p := ⟨w.heap.size + 1 + 1, 0, none⟩) zq52 (.slice none 0 0)) (p := ⟨w.heap.size + 1 + 1 + 1, 0, none⟩) (by show _ ≤ w.heap.size + 1 + 1 + 1; omega) (.int .i64 eg)); gi_wp2
   first
    | exact ⟨_, HE1.out, fun b hb => Nat.lt_of_lt_of_le (HSB.out b hb) HE1.out.size, rfl, HE14.out, eg, HE15.out, HE1W.out, HH2.out, HNE.out⟩
    | exact ⟨_, HE1.out, fun b hb => Nat.lt_of_lt_of_le (HSB.out b hb) HE1.out.size, rfl, eg, HE14.out, HE15.out, HE1W.out, HH2.out, HNE.out⟩
  case pos =>
  have HH2 := Lib.hid (show alR hh (runsP r) [] its = alR hh (runsP r) (out ++ buildP y.1 gv) (its.drop (k + 1)) by rw [HH3.out, if_neg (by simp [heg])]); subst heg; have HBD2 := Lib.hid (fun (W1 : World) (h : Below w10.heap.size w10 W1) => HBD.out Ag cg W1 (HBQ.out.trans (h.mono HBQ.out.size)) (Kd.R_below HRG.out h)); obtain ⟨ng, hng⟩ : ∃ n, gv.length = n := ⟨_, rfl⟩
  rw [hng] at HBD2 ⊢; obtain ⟨bp, hbp⟩ : ∃ z, buildP y.1 gv = z := ⟨_, rfl⟩
  have HBL := Lib.hid (show bp.length ≤ 1024 by rw [← hbp]; exact buildP_len _ _); rw [hbp] at HBD2 HH2; obtain ⟨o2, ho2⟩ : ∃ o2, out ++ bp = o2 := ⟨_, rfl⟩
  have HL2 := Lib.hid (show o2.length ≤ (k + 1) * 1024 by have h1 := HOUT.out; have h3 := HBL.out; rw [← ho2, List.length_append]; omega); rw [ho2] at HH2; have HO2 := Lib.hid ho2; clear ho2 hng hbp HH3 HBD HRG; gi_wp2; have HD6 := Lib.hid (below_drew1 HBQ.out); have HDX := Lib.hid (below_drew1 (Below.refl w10.heap.size w10)); have c7 : w10.drew.cell? ⟨w6.heap.size + 1, 0, none⟩ = some v := HQ7.out.cell; have HU2 := Lib.hid (show Boxed w10.drew (w.heap.size) 22 (.slice A1 r.length c1) from HQ2.out); have HU3 := Lib.hid (show Boxed w10.drew (w.heap.size + 1) 24 (.slice A2 x.length c2) from HQ3.out); have HU4 := Lib.hid (show Boxed w10.drew (w.heap.size + 1 + 1) 22 (.slice none 0 0) from HQ4.out); have HU5 := Lib.hid (show Boxed w10.drew (w.heap.size + 1 + 1 + 1) 27 (.int .i64 0) from HQ5.out); have HU7 := Lib.hid (show Boxed w10.drew (w6.heap.size + 1) 22 v from HQ7.out); have HRD6 := Lib.hid (Kd.R_below HRO.out HD6.out); have HOWN := Lib.hid (fun b (h : v.ownBlock = some b) => (own_ltR HRD6.out h).2); clear HQ2 HQ3 HQ4 HQ5 HQ7 HBQ; refine startIn_ (m := 6) (S := fun w' => w'.cell? ⟨w6.heap.size + 1, 0, none⟩ = some v) (ds := [4, 5]) (fun ⟨_, _, h⟩ => h) zq17 #[false, false, false, false, false, false] zq17 rfl rfl (c7) (fun hHeld => ?_); refine with_tabW alo.tab18 alo.bits18 (fun HT_ HW_ => ?_); generalize w10.drew = wD at c7 HD6 HDX HU2 HU3 HU4 HU5 HU7 HRD6 HOWN hHeld ⊢; refine pZ 1 64 ?_; refine pZ 2 65 ?_; refine take_ (i := 0) (N := some 63) (v := ?_) (a' := ?_) #[true, true, true, false, false, false] rfl rfl (take_ofW HT_.out HW_.out zq17) (fun _ _ _ h => h) (Or.inl ⟨by rfl, ?_⟩) hHeld ?_ ?_; rotate_left
  ·intro w' s0
   go_simp
   with_reducible rfl
  rotate_left
  ·simp only [Act.put, List.setIfInBounds_toArray, List.set_cons_zero, List.set_cons_succ, i64_w, i32_w]
   rfl
  refine oZ 3 66 (fun K hK => ?_); refine goes_ Tryz.func49 zq17 rfl #[.slice Aq nq cq, .slice Ag ng cg] (by rfl) rfl rfl zq67 ?_
  with_reducible refine (HBD2.out _ HDX.out).mono ?_
  rintro e w7 ⟨vb, rfl, hRb, hb7⟩; refine ⟨_, rfl, ?_⟩; obtain ⟨Ab, cb, rfl, hcb, hRd⟩ := OwnRow.reads hRb.2; have HRD := Lib.hid hRd; have HB7 := Lib.hid hb7; clear hRb hcb hRd hb7; refine hK.out _ _ (pw_cell_below HB7.out c7) (fun hHeld => ?_); clear hK K; refine nZ 66 ?_; refine last_ (i := 4) (N := some 67) #[true, true, true, true, true, false] rfl rfl (one_of HT_.out zq17) zq34 (fun K hK => ?_); refine Kd.R_append_rows_step kE (w0 := w7) w.heap.size (by rfl) (.tmp 63) (.tmp 66) 22 41 (.agg #[.slice none 0 0, (.int .i64 0), (.int .i64 0)]) 40 rfl hu22 info41 rfl zq34 zq4 v out bp _ _ _ (fun _ => True) (fun k => wD.heap.size ≤ k) rfl rfl ?aO HRD.out ?aM ?aK (fun _ _ => trivial) (Below.refl _ _) ?aS ?aL ?_
  case aO => exact Kd.R_below HRD6.out HB7.out
  case aM => exact fun z cs h => kE.M_lower (Nat.le_trans HBW.out.size HD6.out.size) (kE.M_mono (fun q hq => hq.2.1) (kE.M_bound h))
  case aK => exact fun q hq => ⟨trivial, fun e' => Nat.lt_irrefl _ (Nat.lt_of_lt_of_le (HOWN.out q e'.symm) hq)⟩
  case aS => exact Nat.le_trans HBW.out.size (Nat.le_trans HD6.out.size HB7.out.size)
  case aL => have h1 := HOUT.out; have h2 := HK.out; have h3 := HBL.out; omega
  intro v1 w8 ho hb hg hat; rw [HO2.out] at ho; obtain ⟨Az, cz, rfl⟩ := Kd.R_slice ho; have HR7 := Lib.hid (Kd.R_below HRD6.out HB7.out); have HT7 := Lib.hid (Boxed.below HU7.out HB7.out); obtain ⟨z1, z2, z3, z4, z5⟩ := box_Rt HT7.out HR7.out zq34 ho hg hat; have d7 := z1.cell; have g7 := z1.frozen; have HK2 := Lib.hid ((Boxed.below HU2.out HB7.out).kept hg (Kd.R_ne HR7.out (Boxed.below HU2.out HB7.out) zq34)); have HK3 := Lib.hid ((Boxed.below HU3.out HB7.out).kept hg (Kd.R_ne HR7.out (Boxed.below HU3.out HB7.out) zq34)); have HK4 := Lib.hid ((Boxed.below HU4.out HB7.out).kept hg (Kd.R_ne HR7.out (Boxed.below HU4.out HB7.out) zq34)); have HK5 := Lib.hid ((Boxed.below HU5.out HB7.out).kept hg (Kd.R_ne HR7.out (Boxed.below HU5.out HB7.out) zq34)); have HG := Lib.hid hg; have HZ2' := Lib.hid z2; have HZ3' := Lib.hid z3; have HZ4' := Lib.hid z4; have HZ5' := Lib.hid z5; clear z1 z2 z3 z4 z5 ho hb hg hat; refine hK.out _ _ ?_; clear hK K; refine nZ 67 ?_; refine last_ (i := 5) (N := none) #[true, true, true, true, true, true] rfl rfl (one_of HT_.out zq17) zq34 (fun K hK => ?_); refine skip_ (w1 := ?_) (by rfl) rfl ?_ ?_; rotate_left
  ·go_simp
   rfl
  refine hK.out _ _ ?_; clear hK K; refine done_ (done_of HT_.out zq17) ?_; have HY := Lib.hid (((Step.of_below (S := (fun b => OwnS (w6.heap.size + 1) v b ∨ (b = w.heap.size + 1 + 1 ∨ b = w.heap.size + 1 + 1 + 1))) (HD6.out.trans (HB7.out.mono HD6.out.size))).trans (HZ4'.out.wide (fun b => b = w.heap.size + 1 + 1 ∨ b = w.heap.size + 1 + 1 + 1)))); have HB7w := Lib.hid ((HBW.out.trans (HD6.out.mono HBW.out.size)).trans (HB7.out.mono (Nat.le_trans HBW.out.size HD6.out.size))); have hn2 : w.heap.size ≠ w6.heap.size + 1 := by have := HSW6.out; omega
  have hn3 : w.heap.size + 1 ≠ w6.heap.size + 1 := by have := HSW6.out; omega
  have hn4 : w.heap.size + 1 + 1 ≠ w6.heap.size + 1 := by have := HSW6.out; omega
  have hn5 : w.heap.size + 1 + 1 + 1 ≠ w6.heap.size + 1 := by have := HSW6.out; omega
  have HW4 := Lib.hid (Boxed.other HK4.out hn4 (.slice Az o2.length cz)); have HW5 := Lib.hid (Boxed.other HK5.out hn5 (.slice Az o2.length cz)); have HBF := Lib.hid (Below.setCell (HB7w.out.trans (grown_base HR7.out HG.out HB7w.out.size)) (p := ⟨w6.heap.size + 1, 0, none⟩) (by show _ ≤ w6.heap.size + 1; have := HSW6.out; omega) (.slice Az o2.length cz)); have HYB := Lib.hid (show ∀ b, (fun b => OwnS (w6.heap.size + 1) (.slice Az o2.length cz) b ∨ (b = w.heap.size + 1 + 1 ∨ b = w.heap.size + 1 + 1 + 1)) b → b < (w8.setCell ⟨w6.heap.size + 1, 0, none⟩ (.slice Az o2.length cz)).heap.size from fun b hb => hb.elim (HZ5'.out b) (fun hb => hb.elim (fun h => h.symm ▸ HW4.out.lt) (fun h => h.symm ▸ HW5.out.lt))); gi_wp2; exact ⟨_, HY.out, HYB.out, _, rfl, ⟨Boxed.other HK2.out hn2 _, Boxed.other HK3.out hn3 _, HW4.out, HW5.out⟩, HZ2'.out, o2, HZ3'.out, HBF.out, HL2.out, HH2.out⟩
 case done =>
  rintro D S W hD hSD hst hsb ⟨v, out, rfl, ⟨bx2, bx3, bx4, bx5⟩, bx6, hRo, hBW, hout, hEE⟩ hK; obtain ⟨Av, cv, rfl⟩ := Kd.R_slice hRo; rw [List.drop_length] at hEE; have hEE2 : alR hh (runsP r) [] its = (out, 0) := hEE; have HBI2 := Lib.hid (fun r (h : NormIs out r) => HBI.out r (.inr ⟨by rw [hEE2], by rw [hEE2]; exact h⟩)); have hD4 : D ≠ w.heap.size + 1 + 1 := by have := HS8.out; have := HSW6.out; omega
  have hD5 : D ≠ w.heap.size + 1 + 1 + 1 := by have := HS8.out; have := HSW6.out; omega
  have HD := Lib.hid (show w.heap.size ≤ D by have := HS8.out; have := HSW6.out; omega); have cl6 := bx6.cell; have HX4D := Lib.hid bx4; have HX5D := Lib.hid bx5; have HBWD := Lib.hid hBW; have HKD := Lib.hid hK; have NC := Lib.hid (NormE_calls Av cv out W (Kd.R_reads' hRo).2.2 (by have := HIL.out; omega)); clear hst hsb hSD bx2 bx3 bx4 bx5 bx6 hBW hEE hEE2 hRo hK; gi_wp2; refine ⟨trivial, ?_⟩; refine (callsIn_wide.2 NC.out).mono ?_; rintro e w7 ⟨vn, rn, hnorm, rfl, hRn, hb7⟩; obtain ⟨An, cn, rfl⟩ := Kd.R_slice hRn; have HRES := Lib.hid (HBI2.out rn hnorm); have bx4 := Boxed.below HX4D.out hb7; have bx5 := Boxed.below HX5D.out hb7; have hK7 : w7.heap[D]? = some (.deferred (some [])) := (hb7.block D (Array.getElem?_eq_some_iff.1 HKD.out).1).trans HKD.out; have hBW7 := HBWD.out.trans (hb7.mono HBWD.out.size); have hRo := Kd.R_lower hRn HBWD.out.size; have cl4 := bx4.cell; have fr4 := bx4.frozen; have HB4' := Lib.hid (Boxed.other (bx4.set (.slice An rn.1.length cn)) (B' := w.heap.size + 1 + 1 + 1) zq4 (.int .i64 rn.2)); have hb5 := Boxed.other bx5 (B' := w.heap.size + 1 + 1) zq4 (.slice An rn.1.length cn); have cl5 := hb5.cell; have fr5 := hb5.frozen; have HB5' := Lib.hid (hb5.set (.int .i64 rn.2)); have HK2 := Lib.hid (show ((w7.setCell ⟨w.heap.size + 1 + 1, 0, none⟩ (.slice An rn.1.length cn)).setCell ⟨w.heap.size + 1 + 1 + 1, 0, none⟩ (.int .i64 rn.2)).heap[D]? = some (.deferred (some [])) from ((Below.heap_setCell _ ⟨w.heap.size + 1 + 1 + 1, 0, none⟩ (.int .i64 rn.2) D hD5).trans (Below.heap_setCell w7 ⟨w.heap.size + 1 + 1, 0, none⟩ (.slice An rn.1.length cn) D hD4)).trans hK7); have HBY' := Lib.hid (Below.setCell (Below.setCell hBW7 (p := ⟨w.heap.size + 1 + 1, 0, none⟩) zq52 (.slice An rn.1.length cn)) (p := ⟨w.heap.size + 1 + 1 + 1, 0, none⟩) (by show _ ≤ w.heap.size + 1 + 1 + 1; omega) (.int .i64 rn.2)); have HRZ := Lib.hid ((Grow.R D tE w.heap.size (fun _ => True) (.slice An rn.1.length cn) rn.1).put (.deferred none) (Kd.R_set (Kd.R_set hRo bx4 zq34 0 (.slice An rn.1.length cn)) hb5 zq34 0 (.int .i64 rn.2)) (Nat.le_refl D) HK2.out rfl); clear bx4 bx5 hb5 hRo hRn hb7 hK7 hBW7 hnorm; gi_wp2; refine ⟨by simp, .inl ⟨_, _, rfl, run_takeDeferred HK2.out, ?_⟩⟩; exact ⟨_, results_c2 rfl _ _ _ rfl (Boxed.cell (put_boxed HB4'.out hD4.symm _)) (oneC_slice hu22) rfl (Boxed.cell (put_boxed HB5'.out hD5.symm _)) (oneC_int Tryz.underlying27), _, rn, HRES.out, rfl, HRZ.out, below_put (Nat.le_refl _) _ HBY'.out HD.out⟩
 case stop =>
  rintro D c S W hD hSD hst hsb ⟨rfl, e, bx4, bx5, hBW, hEE, hne⟩ hK; have HRES := Lib.hid (HBI.out ([], e) (.inl ⟨by rw [hEE]; exact hne, by rw [hEE]⟩)); have hD4 : D ≠ w.heap.size + 1 + 1 := by have := HS8.out; have := HSW6.out; omega
  have hD5 : D ≠ w.heap.size + 1 + 1 + 1 := by have := HS8.out; have := HSW6.out; omega
  have HD := Lib.hid (show w.heap.size ≤ D by have := HS8.out; have := HSW6.out; omega); have HB4' := Lib.hid bx4; have HB5' := Lib.hid bx5; have HBY' := Lib.hid hBW; have HK2 := Lib.hid hK; clear hK bx4 bx5 hBW hEE hst hsb hSD hne; gi_wp2; refine ⟨by simp, .inl ⟨_, _, rfl, run_takeDeferred HK2.out, ?_⟩⟩; exact ⟨_, results_c2 rfl _ _ _ rfl (Boxed.cell (put_boxed HB4'.out hD4.symm _)) (oneC_slice hu22) rfl (Boxed.cell (put_boxed HB5'.out hD5.symm _)) (oneC_int Tryz.underlying27), _, [], e, HRES.out, rfl, Kd.R_nil _ _ _ _ _, below_put (Nat.le_refl _) _ HBY'.out HD.out⟩
end Go.Proofs.YtmkgecapkeojaaaGreat.Eg
end
section
namespace Go.Proofs.YtmkgecapkeojaaaGreat.Eg
open Go.Proofs.YtmkgecapkeojaaaGreat Go.Proofs.YtmkgecapkeojaaaGreat.PDa
open Go.RowKit Go.Proofs.YtmkgecapkeojaaaGreatW.PrintWords Go.Proofs.YtmkgecapkeojaaaGreatW.PrintLast Go.Proofs.YtmkgecapkeojaaaGreatW.PrintMore
open Go.Proofs.YtmkgecapkeojaaaGreat.Stp Go.Proofs.YtmkgecapkeojaaaGreat.Rw
structure Hold (p : Prop) : Prop where
 out : p
theorem hold_intro {p : Prop} (h : Hold p) : p := h.out
def v1 : Vl := ⟨1, 1, ⟨#[]⟩⟩
def v2 : Vl := ⟨1, 2, ⟨#[]⟩⟩
def e1 : EdP := ⟨[v1], 2, 1⟩
def e2 : EdP := ⟨[v1], 5, -1⟩
def e3 : EdP := ⟨[v2], 5, 1⟩
theorem C_lit {α : Type} {d : Kd α} {W : World} {B : Nat} {t : TypeId} {cs : Array Value} {ps qs : List α} {inner : List Value} {n : Nat} (hq : ps = qs) (hb : W.heap[B]? = some (.cells cs t (0, 0))) (hi : cs.toList = inner) (hn : qs.length = n) (hn2 : n ≤ 100) (hr : Reps (d.K W) d.sz ps inner) : Kd.C d W (some ⟨B, 0, none⟩) n qs := by
 subst hq; subst hn; have ho : OwnRow (d.K W) t d.sz W 0 (.slice (some ⟨B, 0, none⟩) ps.length ps.length) ps := ⟨inner, ⟨hr.1, .inr ⟨B, ps.length, cs, rfl, Nat.zero_le _, hb, Nat.le_refl _, by unfold maxLen; omega, by rw [← Array.length_toList, hi, hr.1], by rw [hi, List.take_of_length_le (by rw [hr.1]; exact Nat.le_refl _)]⟩⟩, hr⟩
 obtain ⟨A, c, he, _, h⟩ := OwnRow.reads ho; cases he; exact h
end Go.Proofs.YtmkgecapkeojaaaGreat.Eg
end
section
namespace Go.Proofs.YtmkgecapkeojaaaGreat.Eg
open Go.Proofs.YtmkgecapkeojaaaGreat Go.Proofs.YtmkgecapkeojaaaGreat.PDa
open Go.RowKit Go.Proofs.YtmkgecapkeojaaaGreatW.PrintWords Go.Proofs.YtmkgecapkeojaaaGreatW.PrintLast Go.Proofs.YtmkgecapkeojaaaGreatW.PrintMore
open Go.Proofs.YtmkgecapkeojaaaGreat.Stp Go.Proofs.YtmkgecapkeojaaaGreat.Run Go.Proofs.YtmkgecapkeojaaaGreat.Rw
structure Hold2 (p : Prop) : Prop where
 out : p
end Go.Proofs.YtmkgecapkeojaaaGreat.Eg
end
section
namespace Go.Proofs.YtmkgecapkeojaaaGreat.Eg
open Go.Proofs.YtmkgecapkeojaaaGreat Go.Proofs.YtmkgecapkeojaaaGreat.PDa
open Go.RowKit Go.Proofs.YtmkgecapkeojaaaGreatW.PrintWords Go.Proofs.YtmkgecapkeojaaaGreatW.PrintLast Go.Proofs.YtmkgecapkeojaaaGreatW.PrintMore
open Go.Proofs.YtmkgecapkeojaaaGreat.Stp Go.Proofs.YtmkgecapkeojaaaGreat.Rw
def Ans (r : List EdP × Int) (w : World) (e : Ending) (w' : World) : Prop := ∃ A c, e = .returned (.tuple #[.slice A r.1.length c, .int .i64 r.2]) ∧ Kd.C kE w' A r.1.length r.1 ∧ r.1.length ≤ c ∧ Below w.heap.size w w'
theorem normV_cases (l : List EdP) : (okN l ∧ Fit (flat l) ∧ normV l = (flat l, 0)) ∨ ∃ k, k ≠ 0 ∧ normV l = ([], k) := by
 by_cases h : (normV l).2 = 0
 ·exact .inl (okN_of_norm h)
 ·refine .inr ⟨(normV l).2, h, ?_⟩
  by_cases hok : okN l
  ·rcases normV_flat hok with ⟨_, h2⟩ | ⟨_, h2⟩
   ·rw [h2] at h; exact absurd rfl h
   ·rw [h2]
  ·unfold normV
   split
   ·rfl
   ·split
    ·rfl
    ·rename_i h1 h2
     rw [Bool.not_eq_true, List.any_eq_false] at h1 h2; exact absurd ⟨fun e he => by simpa using h1 e he, fun e he => by simpa using h2 e he⟩ hok
end Go.Proofs.YtmkgecapkeojaaaGreat.Eg
end
section
namespace Go.Proofs.YtmkgecapkeojaaaGreat.Eg
open Go.Proofs.YtmkgecapkeojaaaGreat Go.Proofs.YtmkgecapkeojaaaGreat.PDa
open Go.Proofs.YtmkgecapkeojaaaGreat.EvP (evalV formV holdsV)
open Go.RowKit Go.Proofs.YtmkgecapkeojaaaGreatW.PrintWords Go.Proofs.YtmkgecapkeojaaaGreat.Stp Go.Proofs.YtmkgecapkeojaaaGreat.Rw Go.Proofs.YtmkgecapkeojaaaGreat.Cmp Go.Proofs.YtmkgecapkeojaaaGreat.Canon
def Wt (φ : List Vl → Int) (t : Int) (l : List EdP) : Int := S (fun k => if k.2 ≤ t then φ k.1 else 0) (l.map pE)
theorem Wt_append (φ : List Vl → Int) (t : Int) (a b : List EdP) : Wt φ t (a ++ b) = Wt φ t a + Wt φ t b := by unfold Wt; rw [List.map_append, S_append]
theorem Wt_J (φ : List Vl → Int) (t : Int) {a b : List EdP} (h : ∀ k, JE a k = JE b k) : Wt φ t a = Wt φ t b := S_congr _ h
theorem Wt_nil (φ : List Vl → Int) (t : Int) : Wt φ t [] = 0 := rfl
theorem Wt_cons (φ : List Vl → Int) (t : Int) (e : EdP) (es : List EdP) : Wt φ t (e :: es) = (if e.f1 ≤ t then φ e.f0 else 0) * e.f2 + Wt φ t es := rfl
theorem Wt_put (φ : List Vl → Int) (t : Int) (r : List Vl) : ∀ f : List Jp, Wt φ t (putP [] r f) = φ r * valI f t
 | [] => by simp [putP, Wt_nil, valI]
 | j :: js => by
  have e : putP [] r (j :: js) = ⟨r, j.f0, j.f1⟩ :: putP [] r js := rfl; rw [e, Wt_cons, Wt_put φ t r js, valI]
  split
  ·rw [Int.mul_add]
  ·simp
def Sm {α : Type} (f : α → Int) : List α → Int
 | [] => 0
 | x :: xs => f x + Sm f xs
theorem Sm_congr {α : Type} {f g : α → Int} : ∀ {l : List α}, (∀ x ∈ l, f x = g x) → Sm f l = Sm g l
 | [], _ => rfl
 | x :: xs, h => by rw [Sm, Sm, h x List.mem_cons_self, Sm_congr fun y hy => h y (List.mem_cons_of_mem _ hy)]
theorem Wt_flatMap {α : Type} (φ : List Vl → Int) (t : Int) (g : α → List EdP) : ∀ l : List α, Wt φ t (l.flatMap g) = Sm (fun x => Wt φ t (g x)) l
 | [] => rfl
 | x :: xs => by rw [List.flatMap_cons, Wt_append, Wt_flatMap φ t g xs, Sm]
theorem Wt_flatG (φ : List Vl → Int) (t : Int) (G : List Gr) : Wt φ t (flatG G) = Sm (fun x => φ x.1 * valI x.2 t) G := by
 unfold flatG; rw [Wt_flatMap]; exact Sm_congr fun x _ => Wt_put φ t x.1 x.2
theorem Wt_runs (φ : List Vl → Int) (t : Int) (l : List EdP) : Sm (fun x => φ x.1 * valI x.2 t) (runsP l) = Wt φ t l := by rw [← Wt_flatG, runs_flat]
theorem Wt_val (r : List Vl) (t : Int) (l : List EdP) : valI (jumpsOf l r) t = Wt (fun q => if q = r then 1 else 0) t l := by
 rw [val_split]; unfold Wt
 congr 1
 funext k
 by_cases h : k.1 = r <;> by_cases h2 : k.2 ≤ t <;> simp [h, h2]
theorem Wt_congr {φ ψ : List Vl → Int} (t : Int) : ∀ {l : List EdP}, (∀ e ∈ l, φ e.f0 = ψ e.f0) → Wt φ t l = Wt ψ t l
 | [], _ => rfl
 | e :: es, h => by rw [Wt_cons, Wt_cons, h e List.mem_cons_self, Wt_congr t fun y hy => h y (List.mem_cons_of_mem _ hy)]
theorem Wt_mul (c : Int) (φ : List Vl → Int) (t : Int) : ∀ l : List EdP, Wt (fun q => c * φ q) t l = c * Wt φ t l
 | [] => by simp [Wt_nil]
 | e :: es => by
  rw [Wt_cons, Wt_cons, Wt_mul c φ t es, Int.mul_add, ← Int.mul_assoc]
  split <;> simp
theorem joinV_ok {a b c : List Vl} (h : joinV a b = (c, 0)) : rowMay a = true ∧ rowMay b = true ∧ a.length + b.length ≤ 8 ∧ c = a ++ b := by
 unfold joinV at h
 by_cases h1 : (rowMay a && rowMay b) = true
 ·rw [if_pos h1] at h
  rw [Bool.and_eq_true] at h1
  by_cases h2 : 8 < a.length + b.length
  ·rw [if_pos h2] at h; cases h
  ·rw [if_neg h2] at h
   exact ⟨h1.1, h1.2, by omega, (congrArg Prod.fst h).symm⟩
 ·rw [if_neg h1] at h; cases h
end Go.Proofs.YtmkgecapkeojaaaGreat.Eg
end
section
namespace Go.Proofs.YtmkgecapkeojaaaGreat.Eg
open Go.Proofs.YtmkgecapkeojaaaGreat Go.Proofs.YtmkgecapkeojaaaGreat.PDa Go.Proofs.YtmkgecapkeojaaaGreat.EvP
open Go.RowKit Go.Proofs.YtmkgecapkeojaaaGreatW.PrintWords Go.Proofs.YtmkgecapkeojaaaGreatW.PrintLast Go.Proofs.YtmkgecapkeojaaaGreatW.PrintMore
open Go.Proofs.YtmkgecapkeojaaaGreat.Stp Go.Proofs.YtmkgecapkeojaaaGreat.Rw
theorem nilT : (⟨#[]⟩ : ByteArray).toList = [] := (toList_nil_iff_emptyBytes _).2 rfl
theorem rowMay1 (a : Int) : rowMay [⟨1, a, ⟨#[]⟩⟩] = true := by simp [rowMay, thOf, nilT]
theorem thO_num (a : Int) : thO (Th.num a) = some (Th.num a) := by
 simp [thO, thVal3, thOf]
def v7 : Rw.Vl := ⟨1, 7, ⟨#[]⟩⟩
def a2 : EdP := ⟨[v1], 9, -1⟩
def b1 : EdP := ⟨[v7], 5, 1⟩
def b2 : EdP := ⟨[v7], 12, -1⟩
def jx2 : List Op8 := [⟨3, 0, ⟨#[]⟩⟩, ⟨3, 1, ⟨#[]⟩⟩, ⟨13, 0, ⟨#[]⟩⟩]
def p1 : EdP := ⟨[v1, v7], 5, 1⟩
def p2 : EdP := ⟨[v1, v7], 9, -1⟩
def jt2 : T := .b ⟨13, 0, ⟨#[]⟩⟩ (.l ⟨3, 0, ⟨#[]⟩⟩) (.l ⟨3, 1, ⟨#[]⟩⟩)
theorem jt2_ok : jt2.ok := by
 refine ⟨?_, by decide, ⟨?_, by decide⟩, ⟨?_, by decide⟩⟩ <;> simp [okW, noT, nilT, takes]
theorem jx2_form : formV jx2 = 0 := by
 have h := parse_fl jt2 jt2_ok [] []; rw [List.append_nil] at h; have e : jt2.fl = jx2 := rfl; unfold formV; rw [if_neg zq34, ← e, h]; rfl
theorem runs2 (r : List Rw.Vl) (a b c d : Int) : runsP [⟨r, a, b⟩, ⟨r, c, d⟩] = [(r, [⟨a, b⟩, ⟨c, d⟩])] := by simp [runsP, runAt, eqR_refl, jmpE]
theorem may2 (r : List Rw.Vl) (a b c d : Int) (hr : rowMay r = true) (hm : mayJ [⟨a, b⟩, ⟨c, d⟩] = true) : mayE [⟨r, a, b⟩, ⟨r, c, d⟩] = true := by
 unfold mayE eachP; rw [runs2]; simp only [eachR, lastB, hr, hm]
 rfl
def aloneV (hh : List Rw.Vl → Bool × Int) (ef : Int) (l r : List EdP) : List EdP × Int :=
 if (mayE l && mayE r) = true then (if (tableE l && tableE r) = true then (if ef ≠ 0 then ([], ef) else if (alR hh (runsP r) [] (runsP l)).2 ≠ 0 then ([], (alR hh (runsP r) [] (runsP l)).2) else normV (alR hh (runsP r) [] (runsP l)).1) else ([], 20)) else ([], 2)
theorem alone_is {hh : List Rw.Vl → Bool × Int} {ef : Int} {l r : List EdP} {o : List EdP × Int} (h : AloneIs hh ef l r o) : o = aloneV hh ef l r := by
 unfold aloneV
 rcases h with ⟨h1, h2⟩ | ⟨h1, h2, h3⟩ | ⟨h1, h2, h3, h4⟩ | ⟨⟨h1, h2, h3⟩, ⟨h4, h5⟩ | ⟨h4, h5⟩⟩
 ·rw [if_neg (by rw [h1]; decide), h2]
 ·rw [if_pos h1, if_neg (by rw [h2]; decide), h3]
 ·rw [if_pos h1, if_pos h2, if_pos h3, h4]
 ·rw [if_pos h1, if_pos h2, if_neg (by simpa using h3), if_pos h4, h5]
 ·rw [if_pos h1, if_pos h2, if_neg (by simpa using h3), if_neg (by simpa using h4)]; exact norm_is h5
theorem holds_ok {x : List Op8} {l r : List EdP} (hl : PDd.okEs l = true) (hr : PDd.okEs r = true) (hx : PDd.okXs x = true) (a b : List Rw.Vl × List Jp) (ha : ∃ e ∈ l, a.1 = e.f0) (hb : ∃ e ∈ r, b.1 = e.f0) (hj : (joinV a.1 b.1).2 = 0) : ∃ k, eval_Holds.f k x (joinV a.1 b.1).1 = some (EvP.holdsV x (joinV a.1 b.1).1) := by
 obtain ⟨⟨c, ec⟩, hc⟩ : ∃ z, joinV a.1 b.1 = z := ⟨_, rfl⟩
 rw [hc] at hj ⊢; simp only at hj; subst hj; obtain ⟨_, _, _, rfl⟩ := joinV_ok hc; obtain ⟨e, he, e1⟩ := ha; obtain ⟨f, hf, f1⟩ := hb; refine (EvP.holds_E x _ ⟨(PDd.okX hl hx e he).x, fun v hv => ?_⟩).get
 rcases List.mem_append.1 hv with hv | hv
 ·exact (PDd.okX hl hx e he).row v (e1 ▸ hv)
 ·exact (PDd.okX hr hx f hf).row v (f1 ▸ hv)
theorem alone_any (A0 A1 A2 : Option Addr) (c0 c1 c2 : Nat) (l r : List EdP) (x : List Op8) (w : World) (hr0 : Kd.C kE w A0 l.length l) (hr1 : Kd.C kE w A1 r.length r) (hr2 : Kd.C kO w A2 x.length x) (hc2 : x.length ≤ c2) (hl : PDd.okEs l = true) (hr : PDd.okEs r = true) (hx : PDd.okXs x = true) :
  Calls Tryz.prog 44 #[.slice A0 l.length c0, .slice A1 r.length c1, .slice A2 x.length c2] w (Ans (aloneV (EvP.holdsV x) (EvP.formV x) l r) w) := by
 refine (Alone_calls (EvP.holdsV x) (EvP.formV x) A0 A1 A2 c0 c1 c2 l r x w hr0 (PDd.okEs_row hl) hr1 (PDd.okEs_row hr) hr2 hc2 (fun a b ha hb hj => holds_ok hl hr hx a b (runs_mem l a ha).1 (runs_mem r b hb).1 hj) (EvP.form_E x).get).mono ?_; rintro e w' ⟨v, o, ho, rfl, hR, hb⟩; obtain rfl := alone_is ho; obtain ⟨A, c, rfl⟩ := Kd.R_slice hR; exact ⟨A, c, rfl, (Kd.R_reads' hR).2.2, (Kd.R_reads' hR).2.1, hb⟩
theorem PartnersOk_calls (hh : List Rw.Vl → Bool × Int) (x : Gq) (Ar Af A0 A1 : Option Addr) (cr cf c0 c1 : Nat) (l : List EdP) (ex : List Op8) (w : World) (ha : Kd.R kV tV w 0 (fun _ => True) (.slice Ar x.1.length cr) x.1) (hf : Kd.R kJ tJ w 0 (fun _ => True) (.slice Af x.2.length cf) x.2)
  (hr0 : Kd.C kE w A0 l.length l) (hrow : ∀ e ∈ l, e.f0.length ≤ 4398046511104) (hm : mayE l = true) (ht : tableE l = true) (h1 : rowMay x.1 = true) (h2 : mayJ x.2 = true) (hr1 : Kd.C kO w A1 ex.length ex) (hc1 : ex.length ≤ c1) (hhk : ∀ y ∈ runsP l, (joinV x.1 y.1).2 = 0 → ∃ k, eval_Holds.f k ex (joinV x.1 y.1).1 = some (hh (joinV x.1 y.1).1)) (hfk : ∃ k, expr_Form.f k ex = some 0) :
  Calls Tryz.prog 41 #[.slice Ar x.1.length cr, .slice Af x.2.length cf, .slice A0 l.length c0, .slice A1 ex.length c1] w fun e w' => ∃ v, e = .returned (.tuple #[v, .int .i64 (partsR hh x [] (runsP l)).2]) ∧ Kd.R kJ tJ w' w.heap.size (fun _ => True) v (partsR hh x [] (runsP l)).1 ∧ Below w.heap.size w w' := by
 have M1 := Lib.hid (fun (w1 : World) (h : Below w.heap.size w w1) => row_May.calls Ar cr x.1 (rowMay x.1) w1 (Kd.R_reads' (Kd.R_below ha h)).2.2 (Kd.R_reads' ha).2.1 rfl); have M2 := Lib.hid (fun (w1 : World) (h : Below w.heap.size w w1) => may_any Af cf x.2 w1 (Kd.R_reads' (Kd.R_below hf h)).2.2 (Kd.R_reads' hf).2.1); have M3 := Lib.hid (fun (w1 : World) (h : Below w.heap.size w w1) => May_calls A0 c0 l w1 (Kd.C_below hr0 h) hrow); have M4 := Lib.hid (fun (w1 : World) (h : Below w.heap.size w w1) => Table_calls A0 c0 l w1 (Kd.C_below hr0 h) hrow); have FC := Lib.hid (fun (w1 : World) (h : Below w.heap.size w w1) => (show Calls Tryz.prog 47 #[.slice A1 ex.length c1] w1 fun e w' => e = .returned (.int .i64 0) ∧ Below w1.heap.size w1 w' from hfk.elim fun k hk => expr_Form.calls k A1 c1 ex 0 w1 (Kd.C_below hr1 h) hc1 hk)); have PC := Lib.hid (fun (w1 : World) (h : Below w.heap.size w w1) => partners_calls hh x Ar Af A0 A1 cr cf c0 c1 l ex w1 (Kd.R_below ha h) (Kd.R_below hf h) (Kd.C_below hr0 h) hrow hm (Kd.C_below hr1 h) hc1 hhk); rw [h1] at M1; rw [h2] at M2; rw [hm] at M3; rw [ht] at M4; obtain ⟨o, ho⟩ : ∃ o, partsR hh x [] (runsP l) = o := ⟨_, rfl⟩
 rw [ho] at PC ⊢; obtain ⟨nr, hnr⟩ : ∃ n, x.1.length = n := ⟨_, rfl⟩
 obtain ⟨nf, hnf⟩ : ∃ n, x.2.length = n := ⟨_, rfl⟩
 rw [hnr] at M1 PC ⊢; rw [hnf] at M2 PC ⊢; clear ha hf hr0 hrow hm ht h1 h2 hr1 hc1 hhk hfk ho hnr hnf; go_enter Tryz.func41, Tryz.ntmps41
 go_wp2_with fail
 refine (M1.out _ (Below.refl _ _)).mono ?_; rintro e w1 ⟨rfl, hb⟩; have HB1 := Lib.hid hb; clear hb
 go_wp2_with fail
 refine (M2.out _ HB1.out).mono ?_; rintro e w2 ⟨rfl, hb⟩; have HB2 := Lib.hid (HB1.out.trans (hb.mono HB1.out.size)); clear hb
 go_wp2_with fail
 refine (M3.out _ HB2.out).mono ?_; rintro e w3 ⟨rfl, hb⟩; have HB3 := Lib.hid (HB2.out.trans (hb.mono HB2.out.size)); clear hb
 go_wp2_with fail
 refine (M4.out _ HB3.out).mono ?_; rintro e w4 ⟨rfl, hb⟩; have HB4 := Lib.hid (HB3.out.trans (hb.mono HB3.out.size)); clear hb
 go_wp2_with fail
 refine (FC.out _ HB4.out).mono ?_; rintro e w5 ⟨rfl, hb⟩; have HB5 := Lib.hid (HB4.out.trans (hb.mono HB4.out.size)); clear hb
 go_wp2_with fail
 refine (PC.out _ HB5.out).mono ?_; rintro e w6 ⟨v, rfl, hR, hb⟩; have HR := Lib.hid (Kd.R_lower hR HB5.out.size); have HB6 := Lib.hid (HB5.out.trans (hb.mono HB5.out.size)); clear hR hb; go_wp2; go_ret2; exact ⟨v, rfl, HR.out, HB6.out⟩
def r1 : EdP := ⟨[v1], 4, 1⟩
def r2 : EdP := ⟨[v1], 6, -1⟩
theorem may11 : rowMay [v1, v1] = true := by simp [rowMay, thOf, nilT, v1]
theorem jx2_w : holdsV jx2 [v1, v1] = (true, 0) := by
 have e : jt2.fl = jx2 := rfl; have h : evalV jx2 [v1, v1] = (1, 1, ⟨#[]⟩, 0) := by
  rw [← e, evalV_T jt2 jt2_ok _ (by rw [e]; exact jx2_form) may11]; simp [T.ev, jt2, evL, evB, v1, compareS, getTh, rd_T65, outV, thVal3, Except.map]; simp only [thO_num]
  rfl
 unfold holdsV; rw [h]
 rfl
theorem join11 : joinV [v1] [v1] = ([v1, v1], 0) := by
 unfold joinV; rw [show rowMay [v1] = true from rowMay1 1]
 rfl
theorem table2 (r : List Rw.Vl) (a b c d : Int) (hr : rowMay r = true) (hm : tabJ [⟨a, b⟩, ⟨c, d⟩] = true) : tableE [⟨r, a, b⟩, ⟨r, c, d⟩] = true := by
 unfold tableE eachP; rw [runs2]; simp only [eachR, lastB, hr, hm]
 rfl
theorem part_of (f h : List Jp) (hb : bothV (· * ·) f [⟨4, 1⟩, ⟨6, -1⟩] = (h, 0)) (hn : h ≠ []) : partsR (holdsV jx2) ([v1], f) [] [([v1], [⟨4, 1⟩, ⟨6, -1⟩])] = ([⟨4, 1⟩, ⟨6, -1⟩], 0) := by
 have ep : partnerV (holdsV jx2) ([v1], f) ([v1], [⟨4, 1⟩, ⟨6, -1⟩]) = (true, 0) := by
  unfold partnerV; simp only [hb, join11]; rw [if_neg zq34, if_neg hn, if_neg zq34]; exact jx2_w
 have ea : askV (holdsV jx2) ([v1], f) [] ([v1], [⟨4, 1⟩, ⟨6, -1⟩]) = ([⟨4, 1⟩, ⟨6, -1⟩], 0) := by
  unfold askV; rw [ep, if_pos ⟨rfl, rfl⟩]
  rfl
 simp only [partsR, ea]; rw [if_neg zq34]
theorem factA1 : aloneV (holdsV jx2) (formV jx2) [e1, a2] [r1, r2] = ([e1, ⟨[v1], 4, -1⟩, ⟨[v1], 6, 1⟩, a2], 0) := by
 have m1 : mayE [e1, a2] = true := may2 [v1] 2 1 9 (-1) (rowMay1 1) rfl; have m2 : mayE [r1, r2] = true := may2 [v1] 4 1 6 (-1) (rowMay1 1) rfl; have t1 : tableE [e1, a2] = true := table2 [v1] 2 1 9 (-1) (rowMay1 1) rfl; have t2 : tableE [r1, r2] = true := table2 [v1] 4 1 6 (-1) (rowMay1 1) rfl; have hp : partsR (holdsV jx2) ([v1], [⟨2, 1⟩, ⟨9, -1⟩]) [] [([v1], [⟨4, 1⟩, ⟨6, -1⟩])] = ([⟨4, 1⟩, ⟨6, -1⟩], 0) := part_of _ [⟨4, 1⟩, ⟨6, -1⟩] rfl zq34; have hw : bothV whereO [⟨2, 1⟩, ⟨9, -1⟩] [⟨4, 1⟩, ⟨6, -1⟩] = ([⟨2, 1⟩, ⟨4, -1⟩, ⟨6, 1⟩, ⟨9, -1⟩], 0) := by rfl
 have hb : buildP [v1] [⟨2, 1⟩, ⟨4, -1⟩, ⟨6, 1⟩, ⟨9, -1⟩] = [e1, ⟨[v1], 4, -1⟩, ⟨[v1], 6, 1⟩, a2] := by
  unfold buildP; rw [show rowMay [v1] = true from rowMay1 1]
  rfl
 have m3 : mayE [e1, ⟨[v1], 4, -1⟩, ⟨[v1], 6, 1⟩, a2] = true := by
  unfold mayE eachP; rw [show runsP [e1, ⟨[v1], 4, -1⟩, ⟨[v1], 6, 1⟩, a2] = [([v1], [⟨2, 1⟩, ⟨4, -1⟩, ⟨6, 1⟩, ⟨9, -1⟩])] by simp [runsP, runAt, eqR_refl, jmpE, e1, a2]]; simp only [eachR, lastB, show rowMay [v1] = true from rowMay1 1]
  rfl
 have ha : alR (holdsV jx2) [([v1], [⟨4, 1⟩, ⟨6, -1⟩])] [] [([v1], [⟨2, 1⟩, ⟨9, -1⟩])] = ([e1, ⟨[v1], 4, -1⟩, ⟨[v1], 6, 1⟩, a2], 0) := by
  simp only [alR, hp, hw, hb, List.nil_append]; rw [if_neg zq34, if_neg zq34]
 unfold aloneV; rw [m1, m2, t1, t2, if_pos (by rfl), if_pos (by rfl), jx2_form, if_neg zq34, show runsP [e1, a2] = [([v1], [⟨2, 1⟩, ⟨9, -1⟩])] from runs2 _ _ _ _ _, show runsP [r1, r2] = [([v1], [⟨4, 1⟩, ⟨6, -1⟩])] from runs2 _ _ _ _ _, ha, if_neg zq30]; exact ((mayE_iff _).1 m3).norm
theorem factA2 : partsR (holdsV jx2) ([v1], [⟨0, 1⟩]) [] (runsP [r1, r2]) = ([⟨4, 1⟩, ⟨6, -1⟩], 0) := by
 rw [show runsP [r1, r2] = [([v1], [⟨4, 1⟩, ⟨6, -1⟩])] from runs2 _ _ _ _ _]; exact part_of [⟨0, 1⟩] [⟨4, 1⟩, ⟨6, -1⟩] rfl zq34
theorem R_lit0 {α : Type} {d : Kd α} {W : World} {B : Nat} {t : TypeId} {cs : Array Value} {ps : List α} {inner : List Value} (hb : W.heap[B]? = some (.cells cs t (0, 0))) (hi : cs.toList = inner) (hn : ps.length ≤ 100)
  (hr : Reps (d.M W 0 (fun k => (fun _ => True) k ∧ some k ≠ (Value.slice (some ⟨B, 0, none⟩) ps.length ps.length).ownBlock)) d.sz ps inner) : d.R t W 0 (fun _ => True) (.slice (some ⟨B, 0, none⟩) ps.length ps.length) ps :=
 ⟨fun _ _ => trivial, inner, ⟨hr.1, .inr ⟨B, ps.length, cs, rfl, Nat.zero_le _, hb, Nat.le_refl _, by unfold maxLen; omega, by rw [← Array.length_toList, hi, hr.1], by rw [hi, List.take_of_length_le (by rw [hr.1]; exact Nat.le_refl _)]⟩⟩, hr⟩
theorem liveA_calls (w : World) : Calls Tryz.prog 40 #[] w fun e w' => e = .returned (.bool true) ∧ Below w.heap.size w w' := by
 go_enter Tryz.func40, Tryz.ntmps40
 go_wp2_with (go_at_call 44; refine hold_intro ?_)
 refine ⟨?_⟩; obtain ⟨W1, hW1⟩ : ∃ W1, (((w.alloc (.cells #[.int .i64 1, .int .i64 1, .string ⟨#[]⟩] 65 (0, 0))).alloc (.cells #[.slice (some ⟨w.heap.size, 0, none⟩) 1 1, .int .i64 2, .int .i64 1, .slice (some ⟨w.heap.size, 0, none⟩) 1 1, .int .i64 9, .int .i64 (-1)] 41 (0, 0))).alloc (.cells #[.slice (some ⟨w.heap.size, 0, none⟩) 1 1, .int .i64 4, .int .i64 1, .slice (some ⟨w.heap.size, 0, none⟩) 1 1, .int .i64 6, .int .i64 (-1)] 41 (0, 0))).alloc (.cells #[.int .i64 3, .int .i64 0, .string ⟨#[]⟩, .int .i64 3, .int .i64 1, .string ⟨#[]⟩, .int .i64 13, .int .i64 0, .string ⟨#[]⟩] 68 (0, 0)) = W1 := ⟨_, rfl⟩
 have hsW1 : W1.heap.size = w.heap.size + 4 := by rw [← hW1]; simp
 have hbW1 : Below w.heap.size w W1 := by rw [← hW1]; exact below_alloc (below_alloc (below_alloc (below_alloc (Below.refl _ w) _) _) _) _
 have k0 : W1.heap[w.heap.size]? = some (.cells #[.int .i64 1, .int .i64 1, .string ⟨#[]⟩] 65 (0, 0)) := by
  have h1 := blk_new (w) (.cells #[.int .i64 1, .int .i64 1, .string ⟨#[]⟩] 65 (0, 0)); rw [← hW1]; exact blk_alloc (blk_alloc (blk_alloc (h1) _) _) _
 have k2 : W1.heap[w.heap.size + 1]? = some (.cells #[.slice (some ⟨w.heap.size, 0, none⟩) 1 1, .int .i64 2, .int .i64 1, .slice (some ⟨w.heap.size, 0, none⟩) 1 1, .int .i64 9, .int .i64 (-1)] 41 (0, 0)) := by
  have h1 := blk_new (w.alloc (.cells #[.int .i64 1, .int .i64 1, .string ⟨#[]⟩] 65 (0, 0))) (.cells #[.slice (some ⟨w.heap.size, 0, none⟩) 1 1, .int .i64 2, .int .i64 1, .slice (some ⟨w.heap.size, 0, none⟩) 1 1, .int .i64 9, .int .i64 (-1)] 41 (0, 0)); rw [World.size_alloc] at h1; rw [← hW1]; exact blk_alloc (blk_alloc (h1) _) _
 have k5 : W1.heap[w.heap.size + 1 + 1]? = some (.cells #[.slice (some ⟨w.heap.size, 0, none⟩) 1 1, .int .i64 4, .int .i64 1, .slice (some ⟨w.heap.size, 0, none⟩) 1 1, .int .i64 6, .int .i64 (-1)] 41 (0, 0)) := by
  have h1 := blk_new ((w.alloc (.cells #[.int .i64 1, .int .i64 1, .string ⟨#[]⟩] 65 (0, 0))).alloc (.cells #[.slice (some ⟨w.heap.size, 0, none⟩) 1 1, .int .i64 2, .int .i64 1, .slice (some ⟨w.heap.size, 0, none⟩) 1 1, .int .i64 9, .int .i64 (-1)] 41 (0, 0))) (.cells #[.slice (some ⟨w.heap.size, 0, none⟩) 1 1, .int .i64 4, .int .i64 1, .slice (some ⟨w.heap.size, 0, none⟩) 1 1, .int .i64 6, .int .i64 (-1)] 41 (0, 0)); rw [World.size_alloc, World.size_alloc] at h1; rw [← hW1]; exact blk_alloc (h1) _
 have k6 : W1.heap[w.heap.size + 1 + 1 + 1]? = some (.cells #[.int .i64 3, .int .i64 0, .string ⟨#[]⟩, .int .i64 3, .int .i64 1, .string ⟨#[]⟩, .int .i64 13, .int .i64 0, .string ⟨#[]⟩] 68 (0, 0)) := by
  have h1 := blk_new (((w.alloc (.cells #[.int .i64 1, .int .i64 1, .string ⟨#[]⟩] 65 (0, 0))).alloc (.cells #[.slice (some ⟨w.heap.size, 0, none⟩) 1 1, .int .i64 2, .int .i64 1, .slice (some ⟨w.heap.size, 0, none⟩) 1 1, .int .i64 9, .int .i64 (-1)] 41 (0, 0))).alloc (.cells #[.slice (some ⟨w.heap.size, 0, none⟩) 1 1, .int .i64 4, .int .i64 1, .slice (some ⟨w.heap.size, 0, none⟩) 1 1, .int .i64 6, .int .i64 (-1)] 41 (0, 0))) (.cells #[.int .i64 3, .int .i64 0, .string ⟨#[]⟩, .int .i64 3, .int .i64 1, .string ⟨#[]⟩, .int .i64 13, .int .i64 0, .string ⟨#[]⟩] 68 (0, 0)); rw [World.size_alloc, World.size_alloc, World.size_alloc] at h1; rw [← hW1]; exact h1
 rw [hW1]; have r1' : Kd.C kV W1 (some ⟨w.heap.size, 0, none⟩) 1 [v1] := C_lit (d := kV) (ps := [] ++ [v1]) (inner := [] ++ [.int .i64 v1.f0, .int .i64 v1.f1, .string v1.f2]) rfl k0 rfl rfl zq34 (Reps.snoc (ps := []) (p := v1) (Reps.none (kV.K W1) kV.sz) (k65_mk W1 v1) rfl); have hC : Kd.C kE W1 (some ⟨w.heap.size + 1, 0, none⟩) 2 [e1, a2] :=
  C_lit (d := kE) (ps := [] ++ [e1] ++ [a2]) (inner := [] ++ [.slice (some ⟨w.heap.size, 0, none⟩) 1 1, .int .i64 2, .int .i64 1] ++ [.slice (some ⟨w.heap.size, 0, none⟩) 1 1, .int .i64 9, .int .i64 (-1)]) rfl k2 rfl rfl zq34
   (((Reps.none (kE.K W1) kE.sz).snoc (p := e1) (k41_mk W1 e1 (Nat.le_refl 1) r1') rfl).snoc (p := a2) (k41_mk W1 a2 (Nat.le_refl 1) r1') rfl)
 have hD : Kd.C kE W1 (some ⟨w.heap.size + 1 + 1, 0, none⟩) 2 [r1, r2] :=
  C_lit (d := kE) (ps := [] ++ [r1] ++ [r2]) (inner := [] ++ [.slice (some ⟨w.heap.size, 0, none⟩) 1 1, .int .i64 4, .int .i64 1] ++ [.slice (some ⟨w.heap.size, 0, none⟩) 1 1, .int .i64 6, .int .i64 (-1)]) rfl k5 rfl rfl zq34
   (((Reps.none (kE.K W1) kE.sz).snoc (p := r1) (k41_mk W1 r1 (Nat.le_refl 1) r1') rfl).snoc (p := r2) (k41_mk W1 r2 (Nat.le_refl 1) r1') rfl)
 have hX : Kd.C kO W1 (some ⟨w.heap.size + 1 + 1 + 1, 0, none⟩) 3 jx2 :=
  C_lit (d := kO) (ps := [] ++ [(⟨3, 0, ⟨#[]⟩⟩ : Op8)] ++ [⟨3, 1, ⟨#[]⟩⟩] ++ [⟨13, 0, ⟨#[]⟩⟩]) (inner := [] ++ [.int .i64 3, .int .i64 0, .string ⟨#[]⟩] ++ [.int .i64 3, .int .i64 1, .string ⟨#[]⟩] ++ [.int .i64 13, .int .i64 0, .string ⟨#[]⟩]) rfl k6 rfl rfl zq34
   ((((Reps.none (kO.K W1) kO.sz).snoc (p := ⟨3, 0, ⟨#[]⟩⟩) (k68_mk W1 _) rfl).snoc (p := ⟨3, 1, ⟨#[]⟩⟩) (k68_mk W1 _) rfl).snoc (p := ⟨13, 0, ⟨#[]⟩⟩) (k68_mk W1 _) rfl)
 have HV1 := Lib.hid k0; have HD := Lib.hid hD; have HXX := Lib.hid hX; have HB1 := Lib.hid hbW1; have HLT := Lib.hid (show w.heap.size < W1.heap.size by omega); have FC := Lib.hid (alone_any (some ⟨w.heap.size + 1, 0, none⟩) (some ⟨w.heap.size + 1 + 1, 0, none⟩) (some ⟨w.heap.size + 1 + 1 + 1, 0, none⟩) 2 2 3 [e1, a2] [r1, r2] jx2 W1 hC hD hX (Nat.le_refl 3) (by rfl) (by rfl) (by rfl)); rw [factA1] at FC; clear hC hD hX r1' k0 k2 k5 k6 hW1 hsW1 hbW1; refine FC.out.mono ?_; rintro e w2 ⟨Aa, ca, rfl, hRa, hca, hb2⟩; have HRA := Lib.hid hRa; have HB2 := Lib.hid (HB1.out.trans (hb2.mono HB1.out.size)); have HV2 := Lib.hid ((hb2.block w.heap.size HLT.out).trans HV1.out); have HLT2 := Lib.hid (Nat.lt_of_lt_of_le HLT.out hb2.size); have HD2 := Lib.hid (Kd.C_below HD.out hb2); have HX2 := Lib.hid (Kd.C_below HXX.out hb2); clear hRa hb2 hca HB1 HV1 HD HXX FC
 go_wp2_with (go_at_call 41; refine hold_intro ?_)
 refine ⟨?_⟩; obtain ⟨W3, hW3⟩ : ∃ W3, w2.alloc (.cells #[.int .i64 0, .int .i64 1] 85 (0, 0)) = W3 := ⟨_, rfl⟩
 have hsW3 : W3.heap.size = w2.heap.size + 1 := by rw [← hW3]; simp
 have hbW3 : Below w2.heap.size w2 W3 := by rw [← hW3]; exact below_alloc (Below.refl _ w2) _
 have k0 : W3.heap[w2.heap.size]? = some (.cells #[.int .i64 0, .int .i64 1] 85 (0, 0)) := by
  have h1 := blk_new (w2) (.cells #[.int .i64 0, .int .i64 1] 85 (0, 0)); rw [← hW3]; exact h1
 rw [hW3]; have hRV : Kd.R kV tV W3 0 (fun _ => True) (.slice (some ⟨w.heap.size, 0, none⟩) [v1].length 1) [v1] := R_lit0 (d := kV) (inner := [] ++ [.int .i64 v1.f0, .int .i64 v1.f1, .string v1.f2]) ((hbW3.block w.heap.size HLT2.out).trans HV2.out) rfl zq34 ((Reps.none _ kV.sz).snoc (p := v1) (k65_mkM _ _ _ v1) rfl); have hRJ : Kd.R kJ tJ W3 0 (fun _ => True) (.slice (some ⟨w2.heap.size, 0, none⟩) [(⟨0, 1⟩ : Jp)].length 1) [⟨0, 1⟩] := R_lit0 (d := kJ) (inner := [] ++ [.int .i64 0, .int .i64 1]) k0 rfl zq34 ((Reps.none _ kJ.sz).snoc (p := (⟨0, 1⟩ : Jp)) (k85_mkM _ _ _ (⟨0, 1⟩ : Jp)) rfl); have HB3 := Lib.hid hbW3; have PC := Lib.hid (PartnersOk_calls (holdsV jx2) ([v1], [⟨0, 1⟩]) (some ⟨w.heap.size, 0, none⟩) (some ⟨w2.heap.size, 0, none⟩) (some ⟨w.heap.size + 1 + 1, 0, none⟩) (some ⟨w.heap.size + 1 + 1 + 1, 0, none⟩) 1 1 2 3 [r1, r2] jx2 W3 hRV hRJ (Kd.C_below HD2.out hbW3) zq34 (may2 [v1] 4 1 6 (-1) (rowMay1 1) rfl) (table2 [v1] 4 1 6 (-1) (rowMay1 1) rfl) (rowMay1 1) rfl (Kd.C_below HX2.out hbW3) (Nat.le_refl 3) (fun y hy hj => holds_ok (l := [e1]) (r := [r1, r2]) (by rfl) (by rfl) (by rfl) ([v1], [⟨0, 1⟩]) y ⟨e1, by simp, rfl⟩ (runs_mem _ y hy).1 hj) (by have := (EvP.form_E jx2).get; rw [jx2_form] at this; exact this)); rw [factA2] at PC; clear hRV hRJ k0 hW3 hsW3 hbW3 HD2 HX2 HV2; refine PC.out.mono ?_; rintro e w4 ⟨vp, rfl, hRp, hb4⟩; obtain ⟨Ab, cb, rfl⟩ := Kd.R_slice hRp; have HB4 := Lib.hid ((HB2.out.trans (HB3.out.mono HB2.out.size)).trans (hb4.mono (Nat.le_trans HB2.out.size HB3.out.size))); have hra := Kd.C_below (Kd.C_below HRA.out HB3.out) hb4; obtain ⟨ad, Ay, cy, ea, y0, y1, y2, y3, y4⟩ := at_T41 hra (1 : Int) zq34 zq34; obtain ⟨ad2, Az, cz, eb, z0, z1, z2, z3, z4⟩ := at_T41 hra (2 : Int) zq34 zq34; cases ea; cases eb; have Y1 : w4.cell? ⟨ad.block, ad.off + 3 + 1, none⟩ = some (.int .i64 4) := by simpa [Addr.add, rd_T41] using y1
 have Y2 : w4.cell? ⟨ad.block, ad.off + 3 + 2, none⟩ = some (.int .i64 (-1)) := by simpa [Addr.add, rd_T41] using y2
 have Z1 : w4.cell? ⟨ad.block, ad.off + 6 + 1, none⟩ = some (.int .i64 6) := by simpa [Addr.add, rd_T41] using z1
 clear y0 y1 y2 y3 y4 z0 z1 z2 z3 z4 hra HRA HB2 HB3 hb4 hRp PC; go_wp2; go_ret; exact ⟨rfl, HB4.out⟩
end Go.Proofs.YtmkgecapkeojaaaGreat.Eg
end
section
namespace Go.Proofs.YtmkgecapkeojaaaGreat.Eg
open Go.Proofs.YtmkgecapkeojaaaGreat Go.Proofs.YtmkgecapkeojaaaGreat.PDa
open Go.RowKit Go.Proofs.YtmkgecapkeojaaaGreatW.PrintWords Go.Proofs.YtmkgecapkeojaaaGreat.Stp Go.Proofs.YtmkgecapkeojaaaGreat.Rw Go.Proofs.YtmkgecapkeojaaaGreat.Cmp Go.Proofs.YtmkgecapkeojaaaGreat.Canon
def cc (t u : Int) : Int := if t ≥ 1125899906842624 ∨ u < t then 1 else 0
def Prt (hh : List Vl → Bool × Int) (p : List Vl) (u : Int) (y : Gr) : Prop := 0 < valI y.2 u ∧ (joinV p y.1).2 = 0 ∧ (hh (joinV p y.1).1).1 = true ∧ (hh (joinV p y.1).1).2 = 0
theorem partner_val {hh : List Vl → Bool × Int} {x y : Gr} {b : Bool} (h : partnerV hh x y = (b, 0)) (u : Int) (hx : valI x.2 u ≠ 0) (hy : 0 < valI y.2 u) : b = true ↔ Prt hh x.1 u y := by
 unfold partnerV at h; obtain ⟨⟨g, eg⟩, hg⟩ : ∃ z, bothV (· * ·) x.2 y.2 = z := ⟨_, rfl⟩
 rw [hg] at h; simp only at h
 by_cases e1 : eg = 0
 ·subst e1
  rw [if_neg (by simp)] at h; obtain ⟨_, _, _, hv⟩ := bothV_val (op := (· * ·)) rfl hg; have hv : valI g u = valI x.2 u * valI y.2 u := hv u; have hg0 : g ≠ [] := fun e => by
   rw [e] at hv; have : valI x.2 u * valI y.2 u ≠ 0 := Int.mul_ne_zero hx (by omega); exact this hv.symm
  rw [if_neg hg0] at h
  by_cases e3 : (joinV x.1 y.1).2 = 0
  ·rw [if_neg (by simpa using e3)] at h
   unfold Prt; rw [h]; exact ⟨fun hb => ⟨hy, e3, hb, rfl⟩, fun hb => hb.2.2.1⟩
  ·rw [if_pos (by simpa using e3)] at h
   exact absurd (congrArg Prod.snd h) e3
 ·rw [if_pos (by simpa using e1)] at h
  exact absurd (congrArg Prod.snd h) e1
theorem parts_val {hh : List Vl → Bool × Int} {x : Gr} (u : Int) (hx : valI x.2 u ≠ 0) : ∀ (its : List Gr) (sum p : List Jp), (∀ y ∈ its, 0 ≤ valI y.2 u) → partsR hh x sum its = (p, 0) →
  (valI sum u ≤ valI p u) ∧ ((∃ y ∈ its, Prt hh x.1 u y) → valI sum u < valI p u) ∧ ((¬ ∃ y ∈ its, Prt hh x.1 u y) → valI p u = valI sum u)
 | [], sum, p, _, h => by
  rw [partsR] at h; obtain rfl : sum = p := congrArg Prod.fst h; exact ⟨Int.le_refl _, fun ⟨y, hy, _⟩ => (by cases hy), fun _ => rfl⟩
 | y :: ys, sum, p, hn, h => by
  rw [partsR] at h
  by_cases c : (askV hh x sum y).2 = 0
  ·rw [if_neg (by simpa using c)] at h
   obtain ⟨i1, i2, i3⟩ := parts_val u hx ys _ p (fun z hz => hn z (List.mem_cons_of_mem _ hz)) h; have hy := hn y List.mem_cons_self; unfold askV at c i1 i2 i3
   by_cases c2 : (partnerV hh x y).2 = 0 ∧ (partnerV hh x y).1 = true
   ·rw [if_pos c2] at c i1 i2 i3
    obtain ⟨_, _, _, hv⟩ := bothV_val (op := (· + ·)) rfl (Prod.ext rfl c : bothV (· + ·) sum y.2 = ((bothV (· + ·) sum y.2).1, 0)); have hv : valI (bothV (· + ·) sum y.2).1 u = valI sum u + valI y.2 u := hv u; rw [hv] at i1 i2 i3
    by_cases y0 : 0 < valI y.2 u
    ·exact ⟨by omega, fun _ => by omega, fun hno => absurd ⟨y, List.mem_cons_self, (partner_val (Prod.ext c2.2 c2.1 : partnerV hh x y = (true, 0)) u hx y0).1 rfl⟩ hno⟩
    ·refine ⟨by omega, fun ⟨z, hz, hp⟩ => ?_, fun hno => ?_⟩
     ·rcases List.mem_cons.1 hz with rfl | hz
      ·exact absurd hp.1 y0
      ·have := i2 ⟨z, hz, hp⟩; omega
     ·have := i3 (fun ⟨z, hz, hp⟩ => hno ⟨z, List.mem_cons_of_mem _ hz, hp⟩); omega
   ·rw [if_neg c2] at c i1 i2 i3
    have c : (partnerV hh x y).2 = 0 := c; have i1 : valI sum u ≤ valI p u := i1; have i2 : (∃ z ∈ ys, Prt hh x.1 u z) → valI sum u < valI p u := i2; have i3 : (¬ ∃ z ∈ ys, Prt hh x.1 u z) → valI p u = valI sum u := i3; have hno : ¬ Prt hh x.1 u y := fun hp => c2 ⟨c, (partner_val (Prod.ext rfl c : partnerV hh x y = ((partnerV hh x y).1, 0)) u hx hp.1).2 hp⟩
    refine ⟨i1, fun ⟨z, hz, hp⟩ => ?_, fun h2 => i3 fun ⟨z, hz, hp⟩ => h2 ⟨z, List.mem_cons_of_mem _ hz, hp⟩⟩
    rcases List.mem_cons.1 hz with rfl | hz
    ·exact absurd hp hno
    ·exact i2 ⟨z, hz, hp⟩
  ·rw [if_pos (by simpa using c)] at h
   exact absurd (congrArg Prod.snd h) c
open Classical in
noncomputable def Kp (hh : List Vl → Bool × Int) (R : List Gr) (p : List Vl) (u : Int) : Int := if ∃ y ∈ R, Prt hh p u y then 0 else 1
theorem Kp_pos {hh : List Vl → Bool × Int} {R : List Gr} {p : List Vl} {u : Int} (h : ∃ y ∈ R, Prt hh p u y) : Kp hh R p u = 0 := if_pos h
theorem Kp_neg {hh : List Vl → Bool × Int} {R : List Gr} {p : List Vl} {u : Int} (h : ¬ ∃ y ∈ R, Prt hh p u y) : Kp hh R p u = 1 := if_neg h
theorem alR_ok (hh : List Vl → Bool × Int) (R : List Gr) (hR : ∀ y ∈ R, ∀ u, 0 ≤ valI y.2 u) : ∀ (its : List Gr) (out : List EdP), (∀ x ∈ its, rowMay x.1 = true) → (alR hh R out its).2 = 0 →
  ∃ gs : List Gr, (alR hh R out its).1 = out ++ flatG gs ∧ (∀ g ∈ gs, rowMay g.1 = true ∧ mayJ g.2 = true) ∧ ∀ (φ : List Vl → Int) (u : Int), Sm (fun x => φ x.1 * valI x.2 u) gs = Sm (fun x => φ x.1 * (Kp hh R x.1 u * valI x.2 u)) its
 | [], out, _, _ => ⟨[], by simp [alR, flatG], fun g hg => (by cases hg), fun _ _ => rfl⟩
 | x :: xs, out, hm, h => by
  rw [alR] at h ⊢
  by_cases c : (partsR hh x [] R).2 = 0
  ·rw [if_neg (by simpa using c)] at h ⊢
   by_cases c2 : (bothV whereO x.2 (partsR hh x [] R).1).2 = 0
   ·rw [if_neg (by simpa using c2)] at h ⊢
    obtain ⟨gs, h1, h2, h3⟩ := alR_ok hh R hR xs _ (fun y hy => hm y (List.mem_cons_of_mem _ hy)) h; obtain ⟨_, _, hj, hv⟩ := bothV_val (op := whereO) rfl (Prod.ext rfl c2 : bothV whereO x.2 (partsR hh x [] R).1 = ((bothV whereO x.2 (partsR hh x [] R).1).1, 0)); have hx := hm x List.mem_cons_self; have hb : buildP x.1 (bothV whereO x.2 (partsR hh x [] R).1).1 = putP [] x.1 (bothV whereO x.2 (partsR hh x [] R).1).1 := by unfold buildP; rw [hx, hj]; rfl
    refine ⟨(x.1, (bothV whereO x.2 (partsR hh x [] R).1).1) :: gs, by rw [h1, flatG_cons, hb, List.append_assoc], fun g hg => ?_, fun φ u => ?_⟩
    ·rcases List.mem_cons.1 hg with rfl | hg
     ·exact ⟨hx, hj⟩
     ·exact h2 g hg
    ·rw [Sm, Sm, h3 φ u]
     congr 2
     show valI (bothV whereO x.2 (partsR hh x [] R).1).1 u = _
     rw [hv u]; unfold whereO
     by_cases v0 : valI x.2 u = 0
     ·rw [v0]; split <;> simp
     ·obtain ⟨_, i2, i3⟩ := parts_val (hh := hh) u v0 R [] (partsR hh x [] R).1 (fun y hy => hR y hy u) (Prod.ext rfl c)
      by_cases c3 : ∃ y ∈ R, Prt hh x.1 u y
      ·have i4 := i2 c3
       have v1 : valI ([] : List Jp) u = 0 := rfl; rw [Kp_pos c3, if_pos (by omega)]; simp
      ·have i4 := i3 c3
       have v1 : valI ([] : List Jp) u = 0 := rfl; rw [Kp_neg c3, if_neg (by omega), Int.one_mul]
   ·rw [if_pos (by simpa using c2)] at h
    exact absurd h c2
  ·rw [if_pos (by simpa using c)] at h
   exact absurd h c
theorem runs_nn {r : List EdP} (h : MayP r) (hn : NN r) : ∀ y ∈ runsP r, ∀ u, 0 ≤ valI y.2 u := fun y hy u => by
 rw [runs_groups r (isC_rows h.can)] at hy; obtain ⟨q, _, rfl⟩ := List.mem_map.1 hy; exact hn q u
theorem runs_may {r : List EdP} (h : MayP r) : ∀ y ∈ runsP r, rowMay y.1 = true := fun y hy => by
 obtain ⟨⟨e, he, e1⟩, _⟩ := runs_mem r y hy; rw [e1]; exact (h.each e he).1
theorem flatG_ok {gs : List Gr} (h : ∀ g ∈ gs, rowMay g.1 = true ∧ mayJ g.2 = true) : okN (flatG gs) ∧ ∀ e ∈ flatG gs, e.f1 < 1125899906842624 := by
 have key : ∀ e ∈ flatG gs, rowMay e.f0 = true ∧ -2 < e.f1 ∧ e.f1 < 1125899906842624 ∧ fairB e.f2 = true := fun e he => by
  obtain ⟨x, hx, e1, e2⟩ := flatG_mem he; obtain ⟨h1, h2⟩ := h x hx; obtain ⟨p1, p2, _, p4⟩ := (mayJ_parts h2).2.1 _ e2; exact ⟨by rw [e1]; exact h1, p1, p2, p4⟩
 refine ⟨⟨fun e he => argE_ok (key e he).1 (key e he).2.2.2, fun e he => ?_⟩, fun e he => (key e he).2.2.1⟩; obtain ⟨_, h1, h2, _⟩ := key e he; unfold timeB; rw [decide_eq_false (by omega), decide_eq_false (by omega)]; rfl
theorem alone_val {hh : List Vl → Bool × Int} {ef : Int} {l r a : List EdP} (h : aloneV hh ef l r = (a, 0)) : MayP l ∧ MayP r ∧ MayP a ∧ ∀ (φ : List Vl → Int) (u : Int), Wt φ u a = Wt (fun p => φ p * Kp hh (runsP r) p u) u l := by
 unfold aloneV at h
 by_cases c : (mayE l && mayE r) = true
 ·rw [if_pos c] at h
  rw [Bool.and_eq_true, mayE_iff, mayE_iff] at c
  by_cases c1 : (tableE l && tableE r) = true
  ·rw [if_pos c1] at h
   rw [Bool.and_eq_true, table_iff, table_iff] at c1
   by_cases c2 : ef = 0
   ·rw [if_neg (by simpa using c2)] at h
    by_cases c3 : (alR hh (runsP r) [] (runsP l)).2 = 0
    ·rw [if_neg (by simpa using c3)] at h
     obtain ⟨gs, h1, h2, h3⟩ := alR_ok hh (runsP r) (runs_nn c.2 c1.2.2) (runsP l) [] (runs_may c.1) c3; rw [h1, List.nil_append] at h; obtain ⟨ok, late⟩ := flatG_ok h2; obtain ⟨_, hf, e⟩ := okN_of_norm (l := flatG gs) (by rw [h]); rw [h] at e; obtain rfl : a = flat (flatG gs) := congrArg Prod.fst e; refine ⟨c.1, c.2, flat_may ok hf, fun φ u => ?_⟩; rw [Wt_J (b := flatG gs) φ u (fun k => ?_), Wt_flatG, h3, ← Wt_runs]
     ·exact Sm_congr fun x _ => by rw [Int.mul_assoc]
     ·obtain ⟨q, s⟩ := k
      rw [flat_J]
      split
      ·rfl
      ·rename_i c4
       refine (J_none _ _ fun z hz e => c4 ?_).symm; obtain ⟨y, hy, rfl⟩ := List.mem_map.1 hz; have e2 : y.f1 = s := (Prod.mk.inj e).2; rw [← e2]; exact late y hy
    ·rw [if_pos (by simpa using c3)] at h
     exact absurd (congrArg Prod.snd h) c3
   ·rw [if_pos (by simpa using c2)] at h
    exact absurd (congrArg Prod.snd h) c2
  ·rw [if_neg c1] at h; cases h
 ·rw [if_neg c] at h; cases h
theorem prt_rows {hh : List Vl → Bool × Int} {r : List EdP} (h : MayP r) (p : List Vl) (u : Int) : (∃ y ∈ runsP r, Prt hh p u y) ↔ ∃ s, Prt hh p u (s, jumpsOf r s) := by
 rw [runs_groups r (isC_rows h.can)]
 constructor
 ·rintro ⟨y, hy, hp⟩
  obtain ⟨s, _, rfl⟩ := List.mem_map.1 hy; exact ⟨s, hp⟩
 ·rintro ⟨s, hp⟩
  by_cases hs : s ∈ rowsOf r
  ·exact ⟨(s, jumpsOf r s), List.mem_map.2 ⟨s, hs, rfl⟩, hp⟩
  ·have h0 := hp.1
   rw [show (s, jumpsOf r s).2 = jumpsOf r s from rfl, jumpsOf_none r s (fun e he e1 => hs ((rowsOf_mem r s).2 ⟨e, he, e1⟩))] at h0; exact absurd h0 (by simp [valI])
theorem aloneV_row (hh : List Vl → Bool × Int) (ef : Int) (l r : List EdP) : (∀ e ∈ (aloneV hh ef l r).1, e.f0.length ≤ 8) ∧ (aloneV hh ef l r).1.length ≤ 4096 ∧ ((aloneV hh ef l r).2 ≠ 0 → (aloneV hh ef l r).1 = []) := by
 obtain ⟨⟨a, e⟩, h⟩ : ∃ z, aloneV hh ef l r = z := ⟨_, rfl⟩
 rw [h]
 by_cases c : e = 0
 ·subst c
  obtain ⟨_, _, m, _⟩ := alone_val h; exact ⟨fun e he => rowMay_len (m.each e he).1, m.len, fun h => absurd rfl h⟩
 ·suffices a = [] by subst this; exact ⟨fun e he => (by cases he), Nat.zero_le _, fun _ => rfl⟩
  unfold aloneV at h
  split at h
  ·split at h
   ·split at h
    ·exact (congrArg Prod.fst h).symm
    ·split at h
     ·exact (congrArg Prod.fst h).symm
     ·rcases normV_cases (alR hh (runsP r) [] (runsP l)).1 with ⟨_, _, h2⟩ | ⟨k, _, h2⟩
      ·rw [h2] at h; exact absurd (congrArg Prod.snd h).symm c
      ·rw [h2] at h; exact (congrArg Prod.fst h).symm
   ·exact (congrArg Prod.fst h).symm
  ·exact (congrArg Prod.fst h).symm
end Go.Proofs.YtmkgecapkeojaaaGreat.Eg
end
section
namespace Go.Proofs.YtmkgecapkeojaaaGreat.Eg
open Go.Proofs.YtmkgecapkeojaaaGreat Go.Proofs.YtmkgecapkeojaaaGreat.PDa
open Go.RowKit Go.Proofs.YtmkgecapkeojaaaGreatW.PrintWords Go.Proofs.YtmkgecapkeojaaaGreatW.PrintLast Go.Proofs.YtmkgecapkeojaaaGreatW.PrintMore
open Go.Proofs.YtmkgecapkeojaaaGreat.Stp Go.Proofs.YtmkgecapkeojaaaGreat.Rw
theorem jumps_any (A0 : Option Addr) (c0 : Nat) (l : List EdP) (A1 : Option Addr) (c1 : Nat) (r : List Vl) (w : World) (hr0 : Kd.C kE w A0 l.length l) (hc0 : l.length ≤ c0) (hr1 : Kd.C kV w A1 r.length r) (hc1 : r.length ≤ c1) (hl : l.length ≤ 1000000) (hr : ∀ e ∈ l, e.f0.length ≤ 4398046511104) :
  Calls Tryz.prog 26 #[.slice A0 l.length c0, .slice A1 r.length c1] w fun e w' => ∃ A c, e = .returned (.slice A (jumpsOf l r).length c) ∧ Kd.C kJ w' A (jumpsOf l r).length (jumpsOf l r) ∧ (jumpsOf l r).length ≤ c ∧ Below w.heap.size w w' := by
 obtain ⟨k, hk⟩ := (jumps10 l r hr hl).get; refine (r10_Jumps.calls k A0 c0 l A1 c1 r _ w hr0 hc0 hr1 hc1 hk).mono ?_; rintro e w' ⟨v, rfl, hR, hb⟩; obtain ⟨A, c, rfl⟩ := Kd.R_slice hR; exact ⟨A, c, rfl, (Kd.R_reads' hR).2.2, (Kd.R_reads' hR).2.1, hb⟩
theorem value_any (A : Option Addr) (c : Nat) (f : List Jp) (p : Int) (w : World) (hr : Kd.C kJ w A f.length f) (hc : f.length ≤ c) (hf : Fair f) (hl : f.length ≤ 1000000) :
  Calls Tryz.prog 25 #[.slice A f.length c, .int .i64 p] w fun e w' => e = .returned (.int .i64 (valI f p)) ∧ Below w.heap.size w w' := by
 obtain ⟨k, hk⟩ := (value09 f p hf hl).get; exact (r09_Value.calls k A c f p _ w hr hc hk).mono fun e w' z => ⟨z.1, z.2.below⟩
theorem MayP.fairJ {l : List EdP} (h : MayP l) (r : List Vl) : Fair (jumpsOf l r) := fun j hj => okFair ((mayJ_parts (h.jumps r)).2.1 j hj).2.2.2
end Go.Proofs.YtmkgecapkeojaaaGreat.Eg
end
section
namespace Go.Proofs.YtmkgecapkeojaaaGreat.Eg
open Go.Proofs.YtmkgecapkeojaaaGreat Go.Proofs.YtmkgecapkeojaaaGreat.PDa
open Go.RowKit Go.Proofs.YtmkgecapkeojaaaGreatW.PrintWords Go.Proofs.YtmkgecapkeojaaaGreat.Stp Go.Proofs.YtmkgecapkeojaaaGreat.Rw Go.Proofs.YtmkgecapkeojaaaGreat.Cmp Go.Proofs.YtmkgecapkeojaaaGreat.Canon
theorem join06 (a b : List Vl) : EvP.U (fun k => r06_Join.f k a b) (joinV a b) := by
 unfold r06_Join.f joinV; refine EvP.U.bind (EvP.mayR a) ?_; cases ha : rowMay a with
 | false =>
  refine EvP.U.neg (by decide) (EvP.U.succ ?_); simp only [r06_Join.j0]; exact EvP.U.pos (by first | rfl | trivial) (EvP.U.const (by rw [if_neg (by simp)]))
 | true =>
  refine EvP.U.pos (by first | rfl | trivial) (EvP.U.bind (EvP.mayR b) ?_); have la := rowMay_len ha; cases hb : rowMay b with
  | false =>
   refine EvP.U.succ ?_; simp only [r06_Join.j0]; exact EvP.U.pos (by first | rfl | trivial) (EvP.U.const (by rw [if_neg (by simp)]))
  | true =>
   have lb := rowMay_len hb; refine EvP.U.succ ?_; simp only [r06_Join.j0]; refine EvP.U.neg (by decide) ?_; have hw : wrap64 ((a.length : Int) + (b.length : Int)) = (a.length : Int) + (b.length : Int) := by rw [show (a.length : Int) + (b.length : Int) = ((a.length + b.length : Nat) : Int) by omega]; exact EvP.w64 (by omega) (by omega)
   rw [hw]
   by_cases h8 : 8 < a.length + b.length
   ·exact EvP.U.pos (by omega) (EvP.U.const (by rw [if_pos (by rfl), if_pos h8]))
   ·refine EvP.U.neg (by omega) (EvP.U.const ?_)
    rw [if_pos (by rfl), if_neg h8]; simp; omega
end Go.Proofs.YtmkgecapkeojaaaGreat.Eg
end
section
namespace Go.Proofs.YtmkgecapkeojaaaGreat.Eg
open Go.Proofs.YtmkgecapkeojaaaGreat Go.Proofs.YtmkgecapkeojaaaGreat.PDa Go.Proofs.YtmkgecapkeojaaaGreat.EvP
open Go.RowKit Go.Proofs.YtmkgecapkeojaaaGreatW.PrintWords Go.Proofs.YtmkgecapkeojaaaGreatW.PrintLast Go.Proofs.YtmkgecapkeojaaaGreatW.PrintMore
open Go.Proofs.YtmkgecapkeojaaaGreat.Stp Go.Proofs.YtmkgecapkeojaaaGreat.Rw
theorem r64b {z : Int} (h : (Lit.int .i64 z).wf = true) : PDd.r64 z = true := by
 have := R64.of_wf h; unfold PDd.r64; rw [Bool.and_eq_true]; exact ⟨decide_eq_true this.1, decide_eq_true this.2⟩
abbrev wfV (v : Rw.Vl) : Prop := (Lit.int .i64 v.f0).wf = true ∧ (Lit.int .i64 v.f1).wf = true ∧ v.f2.size ≤ 140737488351232
abbrev wfE (e : EdP) : Prop := ((∀ v ∈ e.f0, wfV v) ∧ e.f0.length * Tryz.prog.bytesOf 65 ≤ 140737488351232) ∧ (Lit.int .i64 e.f1).wf = true ∧ (Lit.int .i64 e.f2).wf = true
abbrev wfEs (l : List EdP) : Prop := (∀ e ∈ l, wfE e) ∧ l.length * Tryz.prog.bytesOf 41 ≤ 140737488351232
abbrev wfO (x : Op8) : Prop := (Lit.int .i64 x.f0).wf = true ∧ (Lit.int .i64 x.f1).wf = true ∧ x.f2.size ≤ 140737488351232
abbrev wfX (l : List Op8) : Prop := (∀ x ∈ l, wfO x) ∧ l.length * Tryz.prog.bytesOf 68 ≤ 140737488351232
theorem bytesV : Tryz.prog.bytesOf 65 = 32 := by kernel_rfl
theorem okEs_wf {l : List EdP} (h : wfEs l) : PDd.okEs l = true := by
 unfold PDd.okEs; refine List.all_eq_true.2 fun e he => ?_
 obtain ⟨⟨h1, h2⟩, _⟩ := h.1 e he; rw [bytesV] at h2; rw [Bool.and_eq_true]; exact ⟨decide_eq_true zq4, List.all_eq_true.2 fun v hv => r64b (h1 v hv).2.1⟩
theorem okXs_wf {l : List Op8} (h : wfX l) : PDd.okXs l = true := List.all_eq_true.2 fun x hx => r64b (h.1 x hx).2.1
end Go.Proofs.YtmkgecapkeojaaaGreat.Eg
end
section
namespace Go.Proofs.YtmkgecapkeojaaaGreat.Eg
open Go.Proofs.YtmkgecapkeojaaaGreat Go.Proofs.YtmkgecapkeojaaaGreat.PDa
open Go.RowKit Go.Proofs.YtmkgecapkeojaaaGreatW.PrintWords Go.Proofs.YtmkgecapkeojaaaGreatW.PrintLast Go.Proofs.YtmkgecapkeojaaaGreatW.PrintMore
open Go.Proofs.YtmkgecapkeojaaaGreat.Stp Go.Proofs.YtmkgecapkeojaaaGreat.Rw
theorem join_any (A0 A1 : Option Addr) (c0 c1 : Nat) (a b : List Vl) (w : World) (hr0 : Kd.C kV w A0 a.length a) (hc0 : a.length ≤ c0) (hr1 : Kd.C kV w A1 b.length b) (hc1 : b.length ≤ c1) :
  Calls Tryz.prog 32 #[.slice A0 a.length c0, .slice A1 b.length c1] w fun e w' => ∃ A c, e = .returned (.tuple #[.slice A (joinV a b).1.length c, .int .i64 (joinV a b).2]) ∧ Kd.C kV w' A (joinV a b).1.length (joinV a b).1 ∧ (joinV a b).1.length ≤ c ∧ Below w.heap.size w w' := by
 obtain ⟨k, hk⟩ := (join06 a b).get; refine (r06_Join.calls k A0 c0 a A1 c1 b _ _ w hr0 hc0 hr1 hc1 hk).mono ?_; rintro e w' ⟨v, rfl, hR, hb⟩; obtain ⟨A, c, rfl⟩ := Kd.R_slice hR; exact ⟨A, c, rfl, (Kd.R_reads' hR).2.2, (Kd.R_reads' hR).2.1, hb⟩
def Met0 (P : Nat → Prop) (v : Int) (k : Nat) (m : Int) : Prop := ((∃ j, j < k ∧ P j) → m = 0) ∧ ((¬ ∃ j, j < k ∧ P j) → m = v)
theorem met0_start (P : Nat → Prop) (v : Int) : Met0 P v 0 v := ⟨fun ⟨j, h, _⟩ => absurd h zq4, fun _ => rfl⟩
theorem met0_yes {P : Nat → Prop} {v : Int} {k : Nat} {m : Int} (h : Met0 P v k m) (hp : P k) : Met0 P v (k + 1) 0 := ⟨fun _ => rfl, fun hn => absurd ⟨k, by omega, hp⟩ hn⟩
theorem met0_no {P : Nat → Prop} {v : Int} {k : Nat} {m : Int} (h : Met0 P v k m) (hp : ¬ P k) : Met0 P v (k + 1) m := by
 have e : (∃ j, j < k + 1 ∧ P j) ↔ ∃ j, j < k ∧ P j := by
  constructor
  ·rintro ⟨j, h1, h2⟩
   by_cases c : j = k
   ·subst c; exact absurd h2 hp
   ·exact ⟨j, by omega, h2⟩
  ·rintro ⟨j, h1, h2⟩; exact ⟨j, by omega, h2⟩
 unfold Met0; rw [e]; exact h
def PrtAt (hh : List Vl → Bool × Int) (p : List Vl) (u : Int) (r : List EdP) (j : Nat) : Prop := ∃ h : j < r.length, Prt hh p u (r[j].f0, jumpsOf r r[j].f0)
theorem alone_at {hh : List Vl → Bool × Int} {ef : Int} {l r a : List EdP} (h : aloneV hh ef l r = (a, 0)) (p : List Vl) (u m : Int) (hm : Met0 (PrtAt hh p u r) (valI (jumpsOf l p) u) r.length m) : valI (jumpsOf a p) u = m := by
 obtain ⟨_, mr, _, va⟩ := alone_val h; have e : (∃ y ∈ runsP r, Prt hh p u y) ↔ ∃ j, j < r.length ∧ PrtAt hh p u r j := by
  rw [prt_rows mr]
  constructor
  ·rintro ⟨s, hs⟩
   by_cases hr : s ∈ rowsOf r
   ·obtain ⟨e, he, rfl⟩ := (rowsOf_mem r s).1 hr
    obtain ⟨j, hj, rfl⟩ := List.getElem_of_mem he; exact ⟨j, hj, hj, hs⟩
   ·have h0 := hs.1
    rw [show (s, jumpsOf r s).2 = jumpsOf r s from rfl, jumpsOf_none r s (fun e he e1 => hr ((rowsOf_mem r s).2 ⟨e, he, e1⟩))] at h0; exact absurd h0 (by simp [valI])
  ·rintro ⟨j, hj, _, hs⟩; exact ⟨_, hs⟩
 have hw : valI (jumpsOf a p) u = Kp hh (runsP r) p u * valI (jumpsOf l p) u := by
  rw [Wt_val, va, Wt_val, ← Wt_mul]; refine Wt_congr u fun x _ => ?_
  by_cases c : x.f0 = p
  ·rw [if_pos c, c]; omega
  ·rw [if_neg c]; simp
 rw [hw]
 by_cases c : ∃ y ∈ runsP r, Prt hh p u y
 ·rw [Kp_pos c, hm.1 (e.1 c), Int.zero_mul]
 ·rw [Kp_neg c, hm.2 (fun h => c (e.2 h)), Int.one_mul]
def ata.T13 : Bool × List (List Nat × List Nat) := (true, [([], []), ([], []), ([0, 1], [0, 1]), ([2], [2]), ([3], [3]), ([], []), ([], []), ([5, 6], [5, 6]), ([7], [7]), ([8], [8]), ([4, 9], [4, 9]), ([10], [10]), ([11], [11]), ([11], [11]), ([12, 10, 0, 1, 2, 3, 4, 5, 6, 7, 8, 9, 10, 11, 12], [12]), ([13, 14, 0, 1, 2, 3, 4, 5, 6, 7, 8, 9, 10, 11, 12, 13, 14], [13])])
def ata.B13 : List Nat := [0, 0, 3, 7, 15, 0, 0, 96, 224, 480, 1023, 2047, 4095, 4095, 8191, 32767]
theorem ata.tab13 : rtab .any (opsOf Tryz.f14 13) = ata.T13 := by kernel_rfl
theorem ata.bits13 : waitsOk ata.T13.2 ata.B13 = true := by kernel_rfl
theorem antiTicks_calls (A0 A1 A2 : Option Addr) (c0 c1 c2 : Nat) (l r : List EdP) (x : List Op8) (t : Int) (w : World)
  (hr0 : Kd.C kE w A0 l.length l) (hc0 : l.length ≤ c0) (hr1 : Kd.C kE w A1 r.length r) (hc1 : r.length ≤ c1) (hr2 : Kd.C kO w A2 x.length x) (hc2 : x.length ≤ c2)
  (hl : PDd.okEs l = true) (hr : PDd.okEs r = true) (hx : PDd.okXs x = true) :
  Calls Tryz.prog 14 #[.slice A0 l.length c0, .slice A1 r.length c1, .slice A2 x.length c2, .int .i64 t] w fun e w' => e = .returned (.bool true) ∧ Below w.heap.size w w' := by
 have LV := Lib.hid (fun w1 => liveA_calls w1); have FIN := Lib.hid (show ∀ w9, Below w.heap.size w w9 → Calls Tryz.prog 40 #[] w9 fun e w' => e = .returned (.bool true) ∧ Below w.heap.size w w' from fun w9 h => (LV.out w9).mono fun e w' z => ⟨z.1, h.trans (z.2.mono h.size)⟩)
 by_cases h100 : l.length ≤ 100 ∧ r.length ≤ 100
 case neg =>
  clear hr0 hr1 hr2 hl hr hx
  by_cases h1 : l.length ≤ 100
  ·have q1 : decide ((l.length : Int) > 100) = false := decide_eq_false zq4
   have q2 : decide ((r.length : Int) > 100) = true := decide_eq_true zq4; clear h1 h100; go_enter Tryz.func14, Tryz.ntmps14
   go_wp2_with fail
   refine (FIN.out _ (Below.refl _ _)).mono ?_; rintro e w9 ⟨rfl, hb9⟩; go_wp2; go_ret; exact ⟨rfl, hb9⟩
  ·have q1 : decide ((l.length : Int) > 100) = true := decide_eq_true zq4
   clear h1 h100; go_enter Tryz.func14, Tryz.ntmps14
   go_wp2_with fail
   refine (FIN.out _ (Below.refl _ _)).mono ?_; rintro e w9 ⟨rfl, hb9⟩; go_wp2; go_ret; exact ⟨rfl, hb9⟩
 case pos =>
 obtain ⟨l1, l2⟩ := h100; have wl := PDd.okEs_row hl; have wr := PDd.okEs_row hr; have PA := Lib.hid (fun (w1 : World) (h : Below w.heap.size w w1) => alone_any A0 A1 A2 c0 c1 c2 l r x w1 (Kd.C_below hr0 h) (Kd.C_below hr1 h) (Kd.C_below hr2 h) hc2 hl hr hx); have JL := Lib.hid (fun (A : Option Addr) (c : Nat) (q : List Vl) (w1 : World) (h : Below w.heap.size w w1) (hR : Kd.C kV w1 A q.length q) (hc : q.length ≤ c) => jumps_any A0 c0 l A c q w1 (Kd.C_below hr0 h) hc0 hR hc zq4 wl); have JR := Lib.hid (fun (A : Option Addr) (c : Nat) (q : List Vl) (w1 : World) (h : Below w.heap.size w w1) (hR : Kd.C kV w1 A q.length q) (hc : q.length ≤ c) => jumps_any A1 c1 r A c q w1 (Kd.C_below hr1 h) hc1 hR hc zq4 wr); have HC := Lib.hid (fun (e0 f0 : EdP) (he : e0 ∈ l) (hf : f0 ∈ r) (bo : List Vl) (hbo : bo = e0.f0 ++ f0.f0 ∨ bo = []) (A : Option Addr) (c : Nat) (w1 : World) (h : Below w.heap.size w w1) (hR : Kd.C kV w1 A bo.length bo) (hc : bo.length ≤ c) => (show Calls Tryz.prog 24 #[.slice A2 x.length c2, .slice A bo.length c] w1 fun e w' => e = .returned (.tuple #[.bool (EvP.holdsV x bo).1, .int .i64 (EvP.holdsV x bo).2]) ∧ Below w1.heap.size w1 w' from (EvP.holds_E x bo ⟨(PDd.okX hl hx e0 he).x, fun v hv => by
  rcases hbo with rfl | rfl
  ·exact (List.mem_append.1 hv).elim ((PDd.okX hl hx e0 he).row v) ((PDd.okX hr hx f0 hf).row v)
  ·cases hv⟩).get.elim fun k hk => eval_Holds.calls k A2 c2 x A c _ _ _ w1 (Kd.C_below hr2 h) hc2 hR hc hk))
 have HL := Lib.hid (fun (w1 : World) (h : Below w.heap.size w w1) => Kd.C_below hr0 h); have HR := Lib.hid (fun (w1 : World) (h : Below w.heap.size w w1) => Kd.C_below hr1 h); obtain ⟨ra, hra⟩ : ∃ z, aloneV (EvP.holdsV x) (EvP.formV x) l r = z := ⟨_, rfl⟩
 have sa := aloneV_row (EvP.holdsV x) (EvP.formV x) l r; rw [hra] at PA sa; obtain ⟨a, ea⟩ := ra; have HRA := Lib.hid hra; have F1 := Lib.hid (show (∀ e ∈ a, e.f0.length ≤ 4398046511104) ∧ a.length ≤ 1000000 ∧ (ea ≠ 0 → a = []) from ⟨fun e he => by have := sa.1 e he; omega, by have := sa.2.1; simp only at this; omega, sa.2.2⟩); have QL : decide ((l.length : Int) > 100) = false := decide_eq_false zq4; have QR : decide ((r.length : Int) > 100) = false := decide_eq_false zq4; clear hr0 hr1 hr2 hc0 hc1 hc2 hl hr hx wl wr sa hra; go_enter Tryz.func14, Tryz.ntmps14
 go_wp2_with fail
 refine (PA.out w (Below.refl _ _)).mono ?_; rintro e w3 ⟨Aa, ca, rfl, hCa, hca, hb3⟩; have HA := Lib.hid (fun (w4 : World) (h : Below w3.heap.size w3 w4) => Kd.C_below hCa h); have HCA := Lib.hid hca; have HB3 := Lib.hid hb3; clear hCa hca hb3 PA; simp only at HA HCA ⊢
 by_cases h1 : ea = 0
 case neg =>
  have q1 : (ea != 0) = true := by simpa using h1
  have e0 : a = [] := F1.out.2.2 h1; subst e0; clear h1
  go_wp2_with fail
  refine (FIN.out _ HB3.out).mono ?_; rintro e w9 ⟨rfl, hb9⟩; have HB9 := Lib.hid hb9; clear hb9; go_wp2; go_ret; exact ⟨rfl, HB9.out⟩
 case pos =>
 subst h1; have TJ := Lib.hid (fun (p : List Vl) (m : Int) (hm : Met0 (PrtAt (EvP.holdsV x) p t r) (valI (jumpsOf l p) t) r.length m) => alone_at HRA.out p t m hm); have JA := Lib.hid (fun (A : Option Addr) (c : Nat) (q : List Vl) (w4 : World) (h : Below w3.heap.size w3 w4) (hR : Kd.C kV w4 A q.length q) (hc : q.length ≤ c) => jumps_any Aa ca a A c q w4 (HA.out w4 h) HCA.out hR hc F1.out.2.1 F1.out.1); have mm := alone_val HRA.out; have FJ := Lib.hid (show (∀ q, Fair (jumpsOf l q)) ∧ (∀ q, Fair (jumpsOf r q)) ∧ ∀ q, Fair (jumpsOf a q) from ⟨fun q => mm.1.fairJ q, fun q => mm.2.1.fairJ q, fun q => mm.2.2.1.fairJ q⟩); clear mm HRA
 go_wp2_with fail
 go_loopw [11] (fun v11 wr => ∃ (i : Nat), i ≤ l.length ∧ v11 = .int .i64 (i : Int) ∧ Aside0 (Below w3.heap.size w3 wr)) (fun v11 wr => l.length - (intOf v11).toNat)
 case atStart => exact ⟨0, Nat.zero_le _, rfl, ⟨Below.refl _ _⟩⟩
 case round =>
  obtain ⟨i, hi, rfl, HBr⟩ := hrel
  by_cases c : i < l.length
  case neg =>
   obtain rfl : i = l.length := by omega
   have HBw := Lib.hid (HB3.out.trans (HBr.out.mono HB3.out.size))
   go_wp2_with fail
   refine (FIN.out _ HBw.out).mono ?_; rintro e w9 ⟨rfl, hb9⟩; have HB9 := Lib.hid hb9; clear hb9; go_wp2; go_ret; exact ⟨rfl, HB9.out⟩
  case pos =>
  obtain ⟨X, hX⟩ : ∃ X, l[i] = X := ⟨_, rfl⟩
  have HM := Lib.hid (show X ∈ l by rw [← hX]; exact List.getElem_mem c); have HXX := Lib.hid hX; have HCI := Lib.hid c; have qi : (i : Int) < (l.length : Int) := by omega
  clear hX; obtain ⟨wo, hwo⟩ : ∃ x : World, x = wr := ⟨_, rfl⟩
  subst hwo; have HBi := Lib.hid (HB3.out.trans (HBr.out.mono HB3.out.size)); obtain ⟨ad, Ax, cx, e1, x0, _, _, x3, x4⟩ := at_T41 (HL.out wo HBi.out) (i : Int) zq4 zq4; rw [Int.toNat_natCast, rdE l i HCI.out, HXX.out] at x0; rw [rdE l i HCI.out, HXX.out] at x3 x4; cases e1; obtain ⟨jl, hjl⟩ : ∃ z, jumpsOf l X.f0 = z := ⟨_, rfl⟩
  obtain ⟨ja, hja⟩ : ∃ z, jumpsOf a X.f0 = z := ⟨_, rfl⟩
  obtain ⟨vl, hvl⟩ : ∃ z, valI jl t = z := ⟨_, rfl⟩
  have LJ := Lib.hid (show jl.length ≤ 1000000 ∧ ja.length ≤ 1000000 from ⟨by have := jumpsOf_len l X.f0; rw [hjl] at this; omega, by have := jumpsOf_len a X.f0; rw [hja] at this; have := F1.out.2.1; omega⟩); have GJ := Lib.hid (show Fair jl ∧ Fair ja from ⟨hjl ▸ FJ.out.1 _, hja ▸ FJ.out.2.2 _⟩); have JL2 := Lib.hid (JL.out Ax cx X.f0 wo HBi.out x4 x3); have JA2 := Lib.hid (fun A c w1 h hR hc => JA.out A c X.f0 w1 h hR hc); have TV := Lib.hid (TJ.out X.f0); rw [hjl] at JL2 TV; rw [hja] at JA2 TV; rw [hvl] at TV; have HVL := Lib.hid hvl; have X4 := Lib.hid (fun (w4 : World) (h : Below wo.heap.size wo w4) => Kd.C_below x4 h); have X3 := Lib.hid x3; have X0 := Lib.hid (fun (w4 : World) (h : Below wo.heap.size wo w4) => pw_cell_below h x0); clear x3 x4 hjl hja hvl
  go_wp2_with fail
  refine JL2.out.mono ?_; rintro e w4 ⟨Aj, cj, rfl, hCj, hcj, hb4⟩; have VA := Lib.hid (value_any Aj cj jl t w4 hCj hcj GJ.out.1 LJ.out.1); have HD4 := Lib.hid hb4; clear hCj hcj hb4 JL2 x0; rw [HVL.out] at VA
  go_wp2_with fail
  refine VA.out.mono ?_; rintro e w5 ⟨rfl, hb5⟩; have HD5 := Lib.hid (HD4.out.trans (hb5.mono HD4.out.size)); clear hb5 VA HD4
  go_wp2_with fail
  go_loopw [12, 13] (fun v12 v13 wr => ∃ (k : Nat) (m : Int), k ≤ r.length ∧ v13 = .int .i64 (k : Int) ∧ v12 = .int .i64 m ∧ Aside0 (Met0 (PrtAt (EvP.holdsV x) X.f0 t r) vl k m) ∧ Aside0 (Below wo.heap.size wo wr)) (fun v12 v13 wr => r.length - (intOf v13).toNat)
  case atStart => exact ⟨0, vl, Nat.zero_le _, rfl, rfl, ⟨met0_start _ _⟩, ⟨HD5.out⟩⟩
  case round =>
   obtain ⟨k, m, hk, rfl, rfl, HM0, HBz⟩ := hrel; have HBw := Lib.hid (HBi.out.trans (HBz.out.mono HBi.out.size)); have x0 := X0.out wr HBz.out
   by_cases c2 : k < r.length
   case neg =>
    obtain rfl : k = r.length := by omega
    have JJ := Lib.hid (JA2.out Ax cx wr (HBr.out.trans (HBz.out.mono HBr.out.size)) (X4.out wr HBz.out) X3.out); have HNV := Lib.hid (TV.out m HM0.out)
    go_wp2_with fail
    refine JJ.out.mono ?_; rintro e w7 ⟨Ak, ck, rfl, hCk, hck, hb7⟩; have VA := Lib.hid (value_any Ak ck ja t w7 hCk hck GJ.out.2 LJ.out.2); have HF8 := Lib.hid (hb7); clear hCk hck hb7 JJ x0; rw [HNV.out] at VA
    go_wp2_with fail
    refine VA.out.mono ?_; rintro e w8 ⟨rfl, hb8⟩; have HF9 := Lib.hid (HF8.out.trans (hb8.mono HF8.out.size)); clear hb8 VA
    go_wp2_with fail
    go_roundw
    case rel => exact ⟨i + 1, by omega, by go_num, ⟨HBr.out.trans ((HBz.out.trans (HF9.out.mono HBz.out.size)).mono HBr.out.size)⟩⟩
    case measure => simp [intOf]; omega
   case pos =>
   obtain ⟨Y, hY⟩ : ∃ Y, r[k] = Y := ⟨_, rfl⟩
   have HYY := Lib.hid hY; have HC2 := Lib.hid c2; have HN := Lib.hid (show Y ∈ r by rw [← hY]; exact List.getElem_mem c2); obtain ⟨bd, Ay, cy, e2, y0, _, _, y3, y4⟩ := at_T41 (HR.out wr HBw.out) (k : Int) zq4 zq4; rw [Int.toNat_natCast, rdE r k c2, hY] at y0; rw [rdE r k c2, hY] at y3 y4; cases e2; have qk : (k : Int) < (r.length : Int) := by omega
   have JN := Lib.hid (fun (w4 : World) (h : Below wr.heap.size wr w4) => join_any Ax Ay cx cy X.f0 Y.f0 w4 (X4.out w4 (HBz.out.trans (h.mono HBz.out.size))) X3.out (Kd.C_below y4 h) y3); have X5 := Lib.hid (fun (w4 : World) (h : Below wr.heap.size wr w4) => X0.out w4 (HBz.out.trans (h.mono HBz.out.size))); have Y4 := Lib.hid (fun (w4 : World) (h : Below wr.heap.size wr w4) => Kd.C_below y4 h); have Y3 := Lib.hid y3; have Y0 := Lib.hid (fun (w4 : World) (h : Below wr.heap.size wr w4) => pw_cell_below h y0); clear y3 y4 hY
   go_wp2_with fail
   go_cut [14, 15] (fun v14 v15 wx => ∃ A c, v14 = .slice A (joinV X.f0 Y.f0).1.length c ∧ v15 = .int .i64 (joinV X.f0 Y.f0).2 ∧ Kd.C kV wx A (joinV X.f0 Y.f0).1.length (joinV X.f0 Y.f0).1 ∧ (joinV X.f0 Y.f0).1.length ≤ c ∧ Below wr.heap.size wr wx)
   case first =>
    refine start_ (n := 16) (S := fun w' => Below wr.heap.size wr w' ∧ w'.cell? (ad.add (i * 3)) = some (.slice Ax X.f0.length cx) ∧ w'.cell? (bd.add (k * 3)) = some (.slice Ay Y.f0.length cy)) (ds := []) #[false, false, false, false, false, false, false, false, false, false, false, false, false, false, false, false] zq17 rfl rfl ⟨below_drew1 (Below.refl wr.heap.size wr), x0, y0⟩ (fun hHeld => ?_); refine with_tabW ata.tab13 ata.bits13 (fun HT_ HW_ => ?_); refine pZ 0 64 ?_; refine pZ 1 65 ?_; refine pZ 2 66 ?_; refine pZ 3 67 ?_; refine pZ 5 69 ?_; refine pZ 6 70 ?_; refine pZ 7 71 ?_; refine pZ 8 72 ?_; refine tZ3 4 68 ?_; refine tZ3 9 73 ?_; refine oZ 10 74 (fun K hK => ?_); refine goes_ Tryz.func32 zq17 rfl #[.slice Ax X.f0.length cx, .slice Ay Y.f0.length cy] (by rfl) rfl rfl zq67 ?_
    with_reducible refine (JN.out _ hHeld.1).mono ?_
    rintro e w5 ⟨Aj, cj, rfl, hCj, hcj, hb5⟩; refine ⟨_, rfl, ?_⟩; have HBJ := Lib.hid (hHeld.1.trans (hb5.mono hHeld.1.size)); refine hK.out _ _ ⟨HBJ.out, X5.out _ HBJ.out, Y0.out _ HBJ.out⟩ (fun hHeld => ?_); clear hK K; refine nZ 74 ?_; refine pZ 11 63 ?_; refine pZ 12 75 ?_; refine pZ 13 76 ?_; refine pZ 14 14 ?_; refine pZ 15 15 ?_; refine done_ (done_of HT_.out zq17) ?_
    go_wp2_with fail
    go_meet
    exact ⟨Aj, cj, rfl, rfl, hCj, hcj, HBJ.out⟩
   case rest =>
   obtain ⟨Aj, cj, rfl, rfl, hCj, hcj, hw⟩ := hcut; have HW5 := Lib.hid hw; obtain ⟨⟨bo, eb⟩, hbo⟩ : ∃ z, joinV X.f0 Y.f0 = z := ⟨_, rfl⟩
   have HBO := Lib.hid hbo; have hb2 : bo = X.f0 ++ Y.f0 ∨ bo = [] := by
    have h := hbo; unfold joinV at h
    split at h
    ·split at h
     ·exact .inr (congrArg Prod.fst h).symm
     ·exact .inl (congrArg Prod.fst h).symm
    ·exact .inr (congrArg Prod.fst h).symm
   rw [hbo] at hCj hcj ⊢; have VC := Lib.hid (HC.out X Y HM.out HN.out bo hb2 Aj cj wc (HBw.out.trans (hw.mono HBw.out.size)) hCj hcj); obtain ⟨nb, hnb⟩ : ∃ n, bo.length = n := ⟨_, rfl⟩
   obtain ⟨⟨ok, g⟩, hhv⟩ : ∃ z, EvP.holdsV x bo = z := ⟨_, rfl⟩
   have HHV := Lib.hid hhv; rw [hhv] at VC; simp only at VC ⊢; rw [hnb] at VC ⊢; clear hCj hcj hw hbo hb2 hhv hnb JN x0 y0
   go_wp2_with fail
   refine VC.out.mono ?_; rintro e w6 ⟨rfl, hb6⟩; have HW6 := Lib.hid (HW5.out.trans (hb6.mono HW5.out.size)); clear hb6 VC HW5; have PI := Lib.hid (show PrtAt (EvP.holdsV x) X.f0 t r k ↔ (0 < valI (jumpsOf r Y.f0) t ∧ eb = 0 ∧ ok = true ∧ g = 0) by
    unfold PrtAt Prt
    constructor
    ·rintro ⟨hh, h1, h2, h3, h4⟩
     have h1 : 0 < valI (jumpsOf r r[k].f0) t := h1; have h2 : (joinV X.f0 r[k].f0).2 = 0 := h2; have h3 : (EvP.holdsV x (joinV X.f0 r[k].f0).1).1 = true := h3; have h4 : (EvP.holdsV x (joinV X.f0 r[k].f0).1).2 = 0 := h4; rw [HYY.out] at h1 h2 h3 h4; rw [HBO.out] at h2 h3 h4; simp only at h2 h3 h4; rw [HHV.out] at h3 h4; exact ⟨h1, h2, h3, h4⟩
    ·rintro ⟨h1, h2, h3, h4⟩
     have hk2 : k < r.length := HC2.out; refine ⟨hk2, ?_⟩
     show 0 < valI (jumpsOf r r[k].f0) t ∧ (joinV X.f0 r[k].f0).2 = 0 ∧ (EvP.holdsV x (joinV X.f0 r[k].f0).1).1 = true ∧ (EvP.holdsV x (joinV X.f0 r[k].f0).1).2 = 0
     rw [HYY.out, HBO.out]; simp only; rw [HHV.out]; exact ⟨h1, h2, h3, h4⟩)
   have YES := Lib.hid (fun (h : 0 < valI (jumpsOf r Y.f0) t ∧ eb = 0 ∧ ok = true ∧ g = 0) => met0_yes HM0.out (PI.out.2 h)); have NOO := Lib.hid (fun (h : ¬ (0 < valI (jumpsOf r Y.f0) t ∧ eb = 0 ∧ ok = true ∧ g = 0)) => met0_no HM0.out (fun h2 => h (PI.out.1 h2))); have JR2 := Lib.hid (JR.out Ay cy Y.f0 w6 (HBw.out.trans (HW6.out.mono HBw.out.size)) (Y4.out w6 HW6.out) Y3.out); have LR := Lib.hid (show (jumpsOf r Y.f0).length ≤ 1000000 by have := jumpsOf_len r Y.f0; omega); have GR := Lib.hid (FJ.out.2.1 Y.f0); obtain ⟨jr, hjr⟩ : ∃ z, jumpsOf r Y.f0 = z := ⟨_, rfl⟩
   rw [hjr] at YES NOO JR2 LR GR; obtain ⟨vr, hvr⟩ : ∃ z, valI jr t = z := ⟨_, rfl⟩
   rw [hvr] at YES NOO; have HVR := Lib.hid hvr; have z0 := Y0.out w6 HW6.out; have HBQ := Lib.hid (HBz.out.trans (HW6.out.mono HBz.out.size)); clear hjr hvr PI HBO HHV HM0
   by_cases c3 : eb = 0
   case neg =>
    have hq := Lib.hid (NOO.out (fun h => c3 h.2.1)); have q3 : (eb == 0) = false := by simpa using c3
    clear c3 YES NOO
    go_wp2_with fail
    go_roundw
    case rel => exact ⟨k + 1, m, by omega, by go_num, rfl, ⟨hq.out⟩, ⟨HBQ.out⟩⟩
    case measure => simp [intOf]; omega
   case pos =>
   by_cases c4 : g = 0
   case neg =>
    have hq := Lib.hid (NOO.out (fun h => c4 h.2.2.2)); have q4 : (g == 0) = false := by simpa using c4
    subst c3; clear c4 YES NOO
    go_wp2_with fail
    go_roundw
    case rel => exact ⟨k + 1, m, by omega, by go_num, rfl, ⟨hq.out⟩, ⟨HBQ.out⟩⟩
    case measure => simp [intOf]; omega
   case pos =>
   cases ok with
   | false =>
    have hq := Lib.hid (NOO.out (fun h => by cases h.2.2.1)); subst c3 c4; clear YES NOO
    go_wp2_with fail
    go_roundw
    case rel => exact ⟨k + 1, m, by omega, by go_num, rfl, ⟨hq.out⟩, ⟨HBQ.out⟩⟩
    case measure => simp [intOf]; omega
   | true =>
    have hy := Lib.hid (fun h : 0 < vr => YES.out ⟨h, c3, rfl, c4⟩); have hn := Lib.hid (fun h : ¬ 0 < vr => NOO.out (fun h2 => h h2.1)); subst c3 c4; clear YES NOO
    go_wp2_with fail
    refine JR2.out.mono ?_; rintro e w7 ⟨Ak, ck, rfl, hCk, hck, hb7⟩; have VA := Lib.hid (value_any Ak ck jr t w7 hCk hck GR.out LR.out); have HF8 := Lib.hid hb7; clear hCk hck hb7 JR2 z0; rw [HVR.out] at VA
    go_wp2_with fail
    refine VA.out.mono ?_; rintro e w8 ⟨rfl, hb8⟩; have HF9 := Lib.hid (HF8.out.trans (hb8.mono HF8.out.size)); clear hb8 VA
    by_cases c5 : 0 < vr
    ·have q5 : decide (vr > 0) = true := decide_eq_true c5
     have hq := Lib.hid (hy.out c5); clear hy hn c5
     go_wp2_with fail
     go_roundw
     case rel => exact ⟨k + 1, 0, by omega, by go_num, rfl, ⟨hq.out⟩, ⟨HBQ.out.trans (HF9.out.mono HBQ.out.size)⟩⟩
     case measure => simp [intOf]; omega
    ·have q5 : decide (vr > 0) = false := decide_eq_false c5
     have hq := Lib.hid (hn.out zq4); clear hy hn c5
     go_wp2_with fail
     go_roundw
     case rel => exact ⟨k + 1, m, by omega, by go_num, rfl, ⟨hq.out⟩, ⟨HBQ.out.trans (HF9.out.mono HBQ.out.size)⟩⟩
     case measure => simp [intOf]; omega
theorem antiTicks_walk (A0 : Option Addr) (c0 : Nat) (l0 : List EdP) (A1 : Option Addr) (c1 : Nat) (l1 : List EdP) (A2 : Option Addr) (c2 : Nat) (l2 : List Op8) (t : Int) (w : World) (hr0 : Kd.C k41 w A0 l0.length l0) (hc0 : l0.length ≤ c0) (h0 : wfEs l0)
  (hr1 : Kd.C k41 w A1 l1.length l1) (hc1 : l1.length ≤ c1) (h1 : wfEs l1) (hr2 : Kd.C k68 w A2 l2.length l2) (hc2 : l2.length ≤ c2) (h2 : wfX l2) (h3 : EvP.R64 t) :
  Calls Tryz.prog 14 #[.slice A0 l0.length c0, .slice A1 l1.length c1, .slice A2 l2.length c2, .int .i64 t] w fun e w' => e = .returned (.bool true) ∧ Below w.heap.size w w' :=
 antiTicks_calls A0 A1 A2 c0 c1 c2 l0 l1 l2 t w hr0 hc0 hr1 hc1 hr2 hc2 (okEs_wf h0) (okEs_wf h1) (okXs_wf h2)
end Go.Proofs.YtmkgecapkeojaaaGreat.Eg
end
