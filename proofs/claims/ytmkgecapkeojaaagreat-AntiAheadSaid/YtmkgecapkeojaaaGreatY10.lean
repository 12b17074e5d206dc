/- Texts of this claim, put together by a program: Alone, HSame, Live, LawF, RefPut, RefNorm, RefProj, LawP, Any, JoinL, LiveP, LiveJ, LiveA, Ahead, AheadP, AloneP, LawFW. -/
import Derived.Test.YtmkgecapkeojaaaGreatY9
import Derived.Deep.DeepCutAuto
set_option linter.unusedVariables false
set_option linter.unusedSimpArgs false
set_option maxHeartbeats 8000000
set_option maxRecDepth 100000
section
namespace Go.Proofs.YtmkgecapkeojaaaGreat.Eg
open Go.Proofs.YtmkgecapkeojaaaGreat Go.Proofs.YtmkgecapkeojaaaGreat.PDa
open Go.RowKit Go.Proofs.YtmkgecapkeojaaaGreatW.PrintWords Go.Proofs.YtmkgecapkeojaaaGreatW.PrintLast Go.Proofs.YtmkgecapkeojaaaGreatW.PrintMore
open Go.Proofs.YtmkgecapkeojaaaGreat.SortM Go.Proofs.YtmkgecapkeojaaaGreat.Run Go.Proofs.YtmkgecapkeojaaaGreat.Stp Go.Proofs.YtmkgecapkeojaaaGreat.Rw
attribute [local go_sem] Oper.semAt_some
def alR (hh : List Vl → Bool × Int) (R : List Gq) (out : List EdP) : List Gq → List EdP × Int
 | [] => (out, 0)
 | x :: xs => if (partsR hh x [] R).2 ≠ 0 then ([], (partsR hh x [] R).2) else if (bothV whereO x.2 (partsR hh x [] R).1).2 ≠ 0 then ([], (bothV whereO x.2 (partsR hh x [] R).1).2) else
  alR hh R (out ++ buildP x.1 (bothV whereO x.2 (partsR hh x [] R).1).1) xs
theorem alR_drop (hh : List Vl → Bool × Int) (R : List Gq) (out : List EdP) (l : List Gq) (k : Nat) (x : Gq) (h : l[k]? = some x) :
  alR hh R out (l.drop k) = if (partsR hh x [] R).2 ≠ 0 then ([], (partsR hh x [] R).2) else if (bothV whereO x.2 (partsR hh x [] R).1).2 ≠ 0 then ([], (bothV whereO x.2 (partsR hh x [] R).1).2) else
   alR hh R (out ++ buildP x.1 (bothV whereO x.2 (partsR hh x [] R).1).1) (l.drop (k + 1)) := by
 obtain ⟨hk, hx⟩ := List.getElem?_eq_some_iff.1 h; rw [List.drop_eq_getElem_cons hk, hx, alR]
def AloneIs (hh : List Vl → Bool × Int) (ef : Int) (l r : List EdP) (o : List EdP × Int) : Prop :=
 ((mayE l && mayE r) = false ∧ o = ([], 2)) ∨ ((mayE l && mayE r) = true ∧ (tableE l && tableE r) = false ∧ o = ([], 20)) ∨ ((mayE l && mayE r) = true ∧ (tableE l && tableE r) = true ∧ ef ≠ 0 ∧ o = ([], ef)) ∨
 (((mayE l && mayE r) = true ∧ (tableE l && tableE r) = true ∧ ef = 0) ∧ (((alR hh (runsP r) [] (runsP l)).2 ≠ 0 ∧ o = ([], (alR hh (runsP r) [] (runsP l)).2)) ∨ ((alR hh (runsP r) [] (runsP l)).2 = 0 ∧ NormIs (alR hh (runsP r) [] (runsP l)).1 o)))
def alo.T18 : Bool × List (List Nat × List Nat) := (true, [([], []), ([], []), ([], []), ([1, 2], [1, 2]), ([0, 3, 3], [0, 3]), ([4, 4, 0, 1, 2, 3, 4], [4])])
def alo.B18 : List Nat := [0, 0, 0, 6, 15, 31]
theorem alo.tab18 : rtab .any (opsOf Tryz.f44 18) = alo.T18 := by kernel_rfl
theorem alo.bits18 : waitsOk alo.T18.2 alo.B18 = true := by kernel_rfl
theorem Alone_calls (hh : List Vl → Bool × Int) (ef : Int) (A0 A1 A2 : Option Addr) (c0 c1 c2 : Nat) (l r : List EdP) (x : List Op8) (w : World) (hr0 : Kd.C kE w A0 l.length l) (hrow : ∀ e ∈ l, e.f0.length ≤ 4398046511104)
  (hr1 : Kd.C kE w A1 r.length r) (hrow1 : ∀ e ∈ r, e.f0.length ≤ 4398046511104)
  (hr2 : Kd.C kO w A2 x.length x) (hc2 : x.length ≤ c2) (hhk : ∀ a b, a ∈ runsP l → b ∈ runsP r → (joinV a.1 b.1).2 = 0 → ∃ k, eval_Holds.f k x (joinV a.1 b.1).1 = some (hh (joinV a.1 b.1).1)) (hfk : ∃ k, expr_Form.f k x = some ef) :
  Calls Tryz.prog 44 #[.slice A0 l.length c0, .slice A1 r.length c1, .slice A2 x.length c2] w fun e w' => ∃ v o, AloneIs hh ef l r o ∧ e = .returned (.tuple #[v, .int .i64 o.2]) ∧ Kd.R kE tE w' w.heap.size (fun _ => True) v o.1 ∧ Below w.heap.size w w' := by
 have hu22 : Tryz.prog.underlying 22 = some (.slice 41) := by kernel_rfl
 have GC := Lib.hid (Groups_calls A0 c0 l.length); have MA := Lib.hid (fun (w1 : World) (h : Below w.heap.size w w1) => May_calls A0 c0 l w1 (Kd.C_below hr0 h) hrow); have MB := Lib.hid (fun (w1 : World) (h : Below w.heap.size w w1) => May_calls A1 c1 r w1 (Kd.C_below hr1 h) hrow1); have TA := Lib.hid (fun (w1 : World) (h : Below w.heap.size w w1) => Table_calls A0 c0 l w1 (Kd.C_below hr0 h) hrow); have TB := Lib.hid (fun (w1 : World) (h : Below w.heap.size w w1) => Table_calls A1 c1 r w1 (Kd.C_below hr1 h) hrow1); have FC := Lib.hid (fun (w1 : World) (h : Below w.heap.size w w1) => (show Calls Tryz.prog 47 #[.slice A2 x.length c2] w1 fun e w' => e = .returned (.int .i64 ef) ∧ Below w1.heap.size w1 w' from hfk.elim fun k hk => expr_Form.calls k A2 c2 x ef w1 (Kd.C_below hr2 h) hc2 hk)); have HR := Lib.hid hr0; have HRR := Lib.hid (fun (w1 : World) (h : Below w.heap.size w w1) => Kd.C_below hr1 h); have HRX := Lib.hid (fun (w1 : World) (h : Below w.heap.size w w1) => Kd.C_below hr2 h); have HCX := Lib.hid hc2; have HRW := Lib.hid hrow; have HRV := Lib.hid hrow1; have HHK := Lib.hid hhk; have HPI := Lib.hid (fun o (h : AloneIs hh ef l r o) => h); clear hr0 hr1 hr2 hrow hrow1 hhk hfk hc2; refine (callsIn_wide (n := 40)).1 ?_; refine callsIn_of_wp_marks Tryz.func44 rfl trivial ?_ rfl; simp only [Tryz.ntmps44, List.size_toArray, List.length_cons, List.length_nil, Nat.reduceAdd, Nat.reduceSub, Array.replicate_succ, Array.replicate_zero, List.push_toArray, List.append_toArray, List.nil_append, List.cons_append]; gi_wp2; obtain ⟨W1, hW1⟩ : ∃ W1, (((w.alloc (.cells #[.slice A1 r.length c1] 22 (0, 0))).alloc (.cells #[.slice A2 x.length c2] 24 (0, 0))).alloc (.cells #[.slice none 0 0] 22 (0, 0))).alloc (.cells #[.int .i64 0] 27 (0, 0)) = W1 := ⟨_, rfl⟩
 have hsW1 : W1.heap.size = w.heap.size + 4 := by rw [← hW1]; simp
 have hbW1 : Below w.heap.size w W1 := by rw [← hW1]; exact below_alloc (below_alloc (below_alloc (below_alloc (Below.refl _ w) _) _) _) _
 have bx2 : W1.heap[w.heap.size]? = some (.cells #[.slice A1 r.length c1] 22 (0, 0)) := by
  have h1 := blk_new (w) (.cells #[.slice A1 r.length c1] 22 (0, 0)); rw [← hW1]; exact blk_alloc (blk_alloc (blk_alloc (h1) _) _) _
 have bx3 : W1.heap[w.heap.size + 1]? = some (.cells #[.slice A2 x.length c2] 24 (0, 0)) := by
  have h1 := blk_new (w.alloc (.cells #[.slice A1 r.length c1] 22 (0, 0))) (.cells #[.slice A2 x.length c2] 24 (0, 0)); rw [World.size_alloc] at h1; rw [← hW1]; exact blk_alloc (blk_alloc (h1) _) _
 have bx4 : W1.heap[w.heap.size + 1 + 1]? = some (.cells #[.slice none 0 0] 22 (0, 0)) := by
  have h1 := blk_new ((w.alloc (.cells #[.slice A1 r.length c1] 22 (0, 0))).alloc (.cells #[.slice A2 x.length c2] 24 (0, 0))) (.cells #[.slice none 0 0] 22 (0, 0)); rw [World.size_alloc, World.size_alloc] at h1; rw [← hW1]; exact blk_alloc (h1) _
 have bx5 : W1.heap[w.heap.size + 1 + 1 + 1]? = some (.cells #[.int .i64 0] 27 (0, 0)) := by
  have h1 := blk_new (((w.alloc (.cells #[.slice A1 r.length c1] 22 (0, 0))).alloc (.cells #[.slice A2 x.length c2] 24 (0, 0))).alloc (.cells #[.slice none 0 0] 22 (0, 0))) (.cells #[.int .i64 0] 27 (0, 0)); rw [World.size_alloc, World.size_alloc, World.size_alloc] at h1; rw [← hW1]; exact h1
 rw [hW1]; refine ⟨trivial, ?_⟩; refine (callsIn_wide.2 (MA.out W1 hbW1)).mono ?_; rintro e w2 ⟨rfl, hb2⟩; have HB2 := Lib.hid (hbW1.trans (hb2.mono hbW1.size)); have HSW := Lib.hid (show w.heap.size + 4 ≤ w2.heap.size by have := hb2.size; omega); have HX2 := Lib.hid (Boxed.below (W := W1) (B := w.heap.size) (t := 22) (v := .slice A1 r.length c1) bx2 hb2); have HX3 := Lib.hid (Boxed.below (W := W1) (B := w.heap.size + 1) (t := 24) (v := .slice A2 x.length c2) bx3 hb2); have HX4 := Lib.hid (Boxed.below (W := W1) (B := w.heap.size + 1 + 1) (t := 22) (v := .slice none 0 0) bx4 hb2); have HX5 := Lib.hid (Boxed.below (W := W1) (B := w.heap.size + 1 + 1 + 1) (t := 27) (v := .int .i64 0) bx5 hb2); clear hW1 hsW1 hbW1 bx2 bx3 bx4 bx5 hb2; obtain ⟨m, hm⟩ : ∃ m, mayE l = m := ⟨_, rfl⟩
 rw [hm]; cases m with
 | false =>
  have HO := Lib.hid (HPI.out ([], 2) (.inl ⟨by rw [hm]; rfl, rfl⟩)); have cl4 := HX4.out.cell; have fr4 := HX4.out.frozen; have HX5' := Lib.hid (Boxed.other HX5.out (B' := w.heap.size + 1 + 1) zq4 (.slice none 0 0)); have cl5 := HX5'.out.cell; have fr5 := HX5'.out.frozen; have HZ4 := Lib.hid (Boxed.other (HX4.out.set (.slice none 0 0)) (B' := w.heap.size + 1 + 1 + 1) zq4 (.int .i64 2)); have HZ5 := Lib.hid (HX5'.out.set (.int .i64 2)); have HZB := Lib.hid (Below.setCell (Below.setCell HB2.out (p := ⟨w.heap.size + 1 + 1, 0, none⟩) zq52 (.slice none 0 0)) (p := ⟨w.heap.size + 1 + 1 + 1, 0, none⟩) (by show _ ≤ w.heap.size + 1 + 1 + 1; omega) (.int .i64 2)); clear hm; gi_wp2
  rename_i hk
  refine ⟨trivial, hk _ _ ?_⟩; clear hk; gi_wp2; exact ⟨_, results_c2 rfl _ _ _ rfl HZ4.out.cell (oneC_slice hu22) rfl HZ5.out.cell (oneC_int Tryz.underlying27), _, _, HO.out, rfl, Kd.R_nil _ _ _ _ _, HZB.out⟩
 | true =>
 have HM0 := Lib.hid hm; have cl2 := HX2.out.cell; clear hm; gi_wp2; refine ⟨trivial, ?_⟩; refine (callsIn_wide.2 (MB.out _ HB2.out)).mono ?_; rintro e w3 ⟨rfl, hb3⟩; clear cl2; have HB9 := Lib.hid (HB2.out.trans (hb3.mono HB2.out.size)); have HSW9 := Lib.hid (show w.heap.size + 4 ≤ w3.heap.size by have := hb3.size; have := HSW.out; omega); have HY2 := Lib.hid (Boxed.below HX2.out hb3); have HY3 := Lib.hid (Boxed.below HX3.out hb3); have HY4 := Lib.hid (Boxed.below HX4.out hb3); have HY5 := Lib.hid (Boxed.below HX5.out hb3); clear hb3 HX2 HX3 HX4 HX5 HB2 HSW; have HX2 := HY2; have HX3 := HY3; have HX4 := HY4; have HX5 := HY5; have HB2 := HB9; have HSW := HSW9; clear HY2 HY3 HY4 HY5 HB9 HSW9; obtain ⟨m, hm⟩ : ∃ m, mayE r = m := ⟨_, rfl⟩
 rw [hm]; cases m with
 | false =>
  have HO := Lib.hid (HPI.out ([], 2) (.inl ⟨by rw [hm, Bool.and_false], rfl⟩)); have cl4 := HX4.out.cell; have fr4 := HX4.out.frozen; have HX5' := Lib.hid (Boxed.other HX5.out (B' := w.heap.size + 1 + 1) zq4 (.slice none 0 0)); have cl5 := HX5'.out.cell; have fr5 := HX5'.out.frozen; have HZ4 := Lib.hid (Boxed.other (HX4.out.set (.slice none 0 0)) (B' := w.heap.size + 1 + 1 + 1) zq4 (.int .i64 2)); have HZ5 := Lib.hid (HX5'.out.set (.int .i64 2)); have HZB := Lib.hid (Below.setCell (Below.setCell HB2.out (p := ⟨w.heap.size + 1 + 1, 0, none⟩) zq52 (.slice none 0 0)) (p := ⟨w.heap.size + 1 + 1 + 1, 0, none⟩) (by show _ ≤ w.heap.size + 1 + 1 + 1; omega) (.int .i64 2)); clear hm; gi_wp2; exact ⟨_, results_c2 rfl _ _ _ rfl HZ4.out.cell (oneC_slice hu22) rfl HZ5.out.cell (oneC_int Tryz.underlying27), _, _, HO.out, rfl, Kd.R_nil _ _ _ _ _, HZB.out⟩
 | true =>
 have HM1 := Lib.hid hm; have HMM := Lib.hid (show (mayE l && mayE r) = true by rw [HM0.out, hm]; rfl); clear hm; gi_wp2; refine ⟨trivial, ?_⟩; refine (callsIn_wide.2 (TA.out _ HB2.out)).mono ?_; rintro e w4 ⟨rfl, hb3⟩; have HB9 := Lib.hid (HB2.out.trans (hb3.mono HB2.out.size)); have HSW9 := Lib.hid (show w.heap.size + 4 ≤ w4.heap.size by have := hb3.size; have := HSW.out; omega); have HY2 := Lib.hid (Boxed.below HX2.out hb3); have HY3 := Lib.hid (Boxed.below HX3.out hb3); have HY4 := Lib.hid (Boxed.below HX4.out hb3); have HY5 := Lib.hid (Boxed.below HX5.out hb3); clear hb3 HX2 HX3 HX4 HX5 HB2 HSW; have HX2 := HY2; have HX3 := HY3; have HX4 := HY4; have HX5 := HY5; have HB2 := HB9; have HSW := HSW9; clear HY2 HY3 HY4 HY5 HB9 HSW9; obtain ⟨m, hm⟩ : ∃ m, tableE l = m := ⟨_, rfl⟩
 rw [hm]; cases m with
 | false =>
  have HO := Lib.hid (HPI.out ([], 20) (.inr (.inl ⟨HMM.out, by rw [hm]; rfl, rfl⟩))); have cl4 := HX4.out.cell; have fr4 := HX4.out.frozen; have HX5' := Lib.hid (Boxed.other HX5.out (B' := w.heap.size + 1 + 1) zq4 (.slice none 0 0)); have cl5 := HX5'.out.cell; have fr5 := HX5'.out.frozen; have HZ4 := Lib.hid (Boxed.other (HX4.out.set (.slice none 0 0)) (B' := w.heap.size + 1 + 1 + 1) zq4 (.int .i64 20)); have HZ5 := Lib.hid (HX5'.out.set (.int .i64 20)); have HZB := Lib.hid (Below.setCell (Below.setCell HB2.out (p := ⟨w.heap.size + 1 + 1, 0, none⟩) zq52 (.slice none 0 0)) (p := ⟨w.heap.size + 1 + 1 + 1, 0, none⟩) (by show _ ≤ w.heap.size + 1 + 1 + 1; omega) (.int .i64 20)); clear hm; gi_wp2
  rename_i hk
  refine ⟨trivial, hk _ _ ?_⟩; clear hk; gi_wp2; exact ⟨_, results_c2 rfl _ _ _ rfl HZ4.out.cell (oneC_slice hu22) rfl HZ5.out.cell (oneC_int Tryz.underlying27), _, _, HO.out, rfl, Kd.R_nil _ _ _ _ _, HZB.out⟩
 | true =>
 have HT0 := Lib.hid hm; have cl2 := HX2.out.cell; clear hm; gi_wp2; refine ⟨trivial, ?_⟩; refine (callsIn_wide.2 (TB.out _ HB2.out)).mono ?_; rintro e w5 ⟨rfl, hb3⟩; clear cl2; have HB9 := Lib.hid (HB2.out.trans (hb3.mono HB2.out.size)); have HSW9 := Lib.hid (show w.heap.size + 4 ≤ w5.heap.size by have := hb3.size; have := HSW.out; omega); have HY2 := Lib.hid (Boxed.below HX2.out hb3); have HY3 := Lib.hid (Boxed.below HX3.out hb3); have HY4 := Lib.hid (Boxed.below HX4.out hb3); have HY5 := Lib.hid (Boxed.below HX5.out hb3); clear hb3 HX2 HX3 HX4 HX5 HB2 HSW; have HX2 := HY2; have HX3 := HY3; have HX4 := HY4; have HX5 := HY5; have HB2 := HB9; have HSW := HSW9; clear HY2 HY3 HY4 HY5 HB9 HSW9; obtain ⟨m, hm⟩ : ∃ m, tableE r = m := ⟨_, rfl⟩
 rw [hm]; cases m with
 | false =>
  have HO := Lib.hid (HPI.out ([], 20) (.inr (.inl ⟨HMM.out, by rw [hm, Bool.and_false], rfl⟩))); have cl4 := HX4.out.cell; have fr4 := HX4.out.frozen; have HX5' := Lib.hid (Boxed.other HX5.out (B' := w.heap.size + 1 + 1) zq4 (.slice none 0 0)); have cl5 := HX5'.out.cell; have fr5 := HX5'.out.frozen; have HZ4 := Lib.hid (Boxed.other (HX4.out.set (.slice none 0 0)) (B' := w.heap.size + 1 + 1 + 1) zq4 (.int .i64 20)); have HZ5 := Lib.hid (HX5'.out.set (.int .i64 20)); have HZB := Lib.hid (Below.setCell (Below.setCell HB2.out (p := ⟨w.heap.size + 1 + 1, 0, none⟩) zq52 (.slice none 0 0)) (p := ⟨w.heap.size + 1 + 1 + 1, 0, none⟩) (by show _ ≤ w.heap.size + 1 + 1 + 1; omega) (.int .i64 20)); clear hm; gi_wp2; exact ⟨_, results_c2 rfl _ _ _ rfl HZ4.out.cell (oneC_slice hu22) rfl HZ5.out.cell (oneC_int Tryz.underlying27), _, _, HO.out, rfl, Kd.R_nil _ _ _ _ _, HZB.out⟩
 | true =>
 have HTT := Lib.hid (show (tableE l && tableE r) = true by rw [HT0.out, hm]; rfl); have cl3 := HX3.out.cell; clear hm; gi_wp2; refine ⟨trivial, ?_⟩; refine (callsIn_wide.2 (FC.out _ HB2.out)).mono ?_; rintro e w6 ⟨rfl, hb3⟩; clear cl3; have HB9 := Lib.hid (HB2.out.trans (hb3.mono HB2.out.size)); have HSW9 := Lib.hid (show w.heap.size + 4 ≤ w6.heap.size by have := hb3.size; have := HSW.out; omega); have HY2 := Lib.hid (Boxed.below HX2.out hb3); have HY3 := Lib.hid (Boxed.below HX3.out hb3); have HY4 := Lib.hid (Boxed.below HX4.out hb3); have HY5 := Lib.hid (Boxed.below HX5.out hb3); clear hb3 HX2 HX3 HX4 HX5 HB2 HSW; have HX2 := HY2; have HX3 := HY3; have HX4 := HY4; have HX5 := HY5; have HB2 := HB9; have HSW := HSW9; clear HY2 HY3 HY4 HY5 HB9 HSW9
 by_cases hef : ef = 0
 case neg =>
  have be : (ef == 0) = false := beq_eq_false_iff_ne.2 hef; have HO := Lib.hid (HPI.out ([], ef) (.inr (.inr (.inl ⟨HMM.out, HTT.out, hef, rfl⟩)))); have cl4 := HX4.out.cell; have fr4 := HX4.out.frozen; have HX5' := Lib.hid (Boxed.other HX5.out (B' := w.heap.size + 1 + 1) zq4 (.slice none 0 0)); have cl5 := HX5'.out.cell; have fr5 := HX5'.out.frozen; have HZ4 := Lib.hid (Boxed.other (HX4.out.set (.slice none 0 0)) (B' := w.heap.size + 1 + 1 + 1) zq4 (.int .i64 ef)); have HZ5 := Lib.hid (HX5'.out.set (.int .i64 ef)); have HZB := Lib.hid (Below.setCell (Below.setCell HB2.out (p := ⟨w.heap.size + 1 + 1, 0, none⟩) zq52 (.slice none 0 0)) (p := ⟨w.heap.size + 1 + 1 + 1, 0, none⟩) (by show _ ≤ w.heap.size + 1 + 1 + 1; omega) (.int .i64 ef)); clear hef; gi_wp2; exact ⟨_, results_c2 rfl _ _ _ rfl HZ4.out.cell (oneC_slice hu22) rfl HZ5.out.cell (oneC_int Tryz.underlying27), _, _, HO.out, rfl, Kd.R_nil _ _ _ _ _, HZB.out⟩
 case pos =>
 subst hef
 gi_wp2_with (refine ⟨trivial, ?_⟩; (with_reducible refine (callsIn_wide.2 (GC.out _)).mono ?_); rintro e w5 ⟨rfl, rfl⟩)
 obtain ⟨W7, hW7⟩ : ∃ W7, (w6.alloc (.cells #[] 41 (0, 0))).alloc (.cells #[.slice (some ⟨w6.heap.size, 0, none⟩) 0 0] 22 (0, 0)) = W7 := ⟨_, rfl⟩
 have hsW7 : W7.heap.size = w6.heap.size + 2 := by rw [← hW7]; simp
 have hbW7 : Below w6.heap.size w6 W7 := by rw [← hW7]; exact below_alloc (below_alloc (Below.refl _ w6) _) _
 have bk0 : W7.heap[w6.heap.size]? = some (.cells #[] 41 (0, 0)) := by
  have h1 := blk_new (w6) (.cells #[] 41 (0, 0)); rw [← hW7]; exact blk_alloc (h1) _
 have bx7 : W7.heap[w6.heap.size + 1]? = some (.cells #[.slice (some ⟨w6.heap.size, 0, none⟩) 0 0] 22 (0, 0)) := by
  have h1 := blk_new (w6.alloc (.cells #[] 41 (0, 0))) (.cells #[.slice (some ⟨w6.heap.size, 0, none⟩) 0 0] 22 (0, 0)); rw [World.size_alloc] at h1; rw [← hW7]; exact h1
 have hit := groups_iter 39 zq4 A0 c0 l w W7 HR.out (HB2.out.trans (hbW7.mono HB2.out.size)) HM0.out HRW.out; obtain ⟨its, hits⟩ : ∃ x, runsP l = x := ⟨_, rfl⟩
 have HIL := Lib.hid (show its.length ≤ 4096 by rw [← hits]; exact Nat.le_trans (runs_len l) (mayE_len HM0.out)); have HHQ := Lib.hid (fun a b (ha : a ∈ its) (hb : b ∈ runsP r) => HHK.out a b (by rw [hits]; exact ha) hb); rw [hits] at hit; have HBI := Lib.hid (fun o (h : (((alR hh (runsP r) [] its).2 ≠ 0 ∧ o = ([], (alR hh (runsP r) [] its).2)) ∨ ((alR hh (runsP r) [] its).2 = 0 ∧ NormIs (alR hh (runsP r) [] its).1 o))) => HPI.out o (.inr (.inr (.inr ⟨⟨HMM.out, HTT.out, rfl⟩, by rw [hits]; exact h⟩)))); have e7 : w6.heap.size + 1 + 1 = W7.heap.size := by omega
 rw [hW7, e7]; obtain ⟨W8, hW8⟩ : ∃ W8, W7.alloc (.cells #[.slice A0 l.length c0] 22 (0, 0)) = W8 := ⟨_, rfl⟩
 have HS7 := Lib.hid hsW7; have HS8 := Lib.hid (show W8.heap.size = w6.heap.size + 3 by rw [← hW8, World.size_alloc, hsW7]); have hb8 : Below w6.heap.size w6 W8 := by rw [← hW8]; exact below_alloc hbW7 _
 have HB8 := Lib.hid (HB2.out.trans (hb8.mono HB2.out.size)); have HSW6 := Lib.hid (show w.heap.size + 4 ≤ w6.heap.size from HSW.out); have HZ2 := Lib.hid (Boxed.below HX2.out hb8); have HZ3 := Lib.hid (Boxed.below HX3.out hb8); have HZ4 := Lib.hid (Boxed.below HX4.out hb8); have HZ5 := Lib.hid (Boxed.below HX5.out hb8); have HZ7 := Lib.hid (show Boxed W8 (w6.heap.size + 1) 22 (.slice (some ⟨w6.heap.size, 0, none⟩) 0 0) by rw [← hW8]; exact blk_alloc bx7 _); have HO8 := Lib.hid (show Kd.R kE tE W8 w.heap.size (fun _ => True) (.slice (some ⟨w6.heap.size, 0, none⟩) 0 0) [] from ⟨fun _ _ => trivial, [], ⟨rfl, .inr ⟨w6.heap.size, 0, #[], rfl, by have := HSW6.out; omega, by rw [← hW8]; exact blk_alloc bk0 _, Nat.le_refl _, Nat.zero_le _, rfl, rfl⟩⟩, Reps.none _ _⟩); rw [hW8] at hit ⊢; have HIT := Lib.hid hit; clear hW7 hW8 hsW7 hbW7 bk0 bx7 hit e7 hits hb8 HX2 HX3 HX4 HX5 HSW HB2; have hS0 : ∀ b, (fun b => OwnS (w6.heap.size + 1) (.slice (some ⟨w6.heap.size, 0, none⟩) 0 0) b ∨ (b = w.heap.size + 1 + 1 ∨ b = w.heap.size + 1 + 1 + 1)) b → ¬ (b < w.heap.size ∨ b = W7.heap.size) ∧ b < W8.heap.size := by
  intro b hb; have h1 := HS7.out; have h2 := HS8.out; have h3 := HSW6.out
  rcases hb with (rfl | hb) | hb
  ·omega
  ·have : w6.heap.size = b := by simpa [Value.ownBlock] using hb
   omega
  ·omega
 refine range_outer (F := Fence.wide) rfl zq4 (gf := 84) (lb := #[.pointer (some ⟨W7.heap.size, 0, none⟩)]) rfl trivial (enters_of Tryz.func84 zq17 rfl) HIT.out (Keeps.refl _ _) (fun x args W h => by obtain ⟨_, _, _, _, rfl, _⟩ := h; rfl)
  (fun k S W => ∃ v out, S = (fun b => OwnS (w6.heap.size + 1) (v) b ∨ (b = w.heap.size + 1 + 1 ∨ b = w.heap.size + 1 + 1 + 1)) ∧ (Boxed W (w.heap.size) 22 (.slice A1 r.length c1) ∧ Boxed W (w.heap.size + 1) 24 (.slice A2 x.length c2) ∧ Boxed W (w.heap.size + 1 + 1) 22 (.slice none 0 0) ∧ Boxed W (w.heap.size + 1 + 1 + 1) 27 (.int .i64 0)) ∧
   Boxed W (w6.heap.size + 1) 22 v ∧ Kd.R kE tE W w.heap.size (fun _ => True) v out ∧ Below w.heap.size w W ∧ (out.length ≤ k * 1024 ∧ alR hh (runsP r) [] its = alR hh (runsP r) out (its.drop k)))
  (fun c S W => c = .ret ∧ ∃ e, Boxed W (w.heap.size + 1 + 1) 22 (.slice none 0 0) ∧ Boxed W (w.heap.size + 1 + 1 + 1) 27 (.int .i64 e) ∧ Below w.heap.size w W ∧ alR hh (runsP r) [] its = ([], e) ∧ e ≠ 0)
  (fun y args a' W => ∃ Aq cq Aj cj, args = #[.slice Aq y.1.length cq, .slice Aj y.2.length cj] ∧ a' = { tmps := #[.slice A0 l.length c0, .slice A1 r.length c1, .slice A2 x.length c2, undef, .pointer (some ⟨w.heap.size, 0, none⟩), .pointer (some ⟨w.heap.size + 1, 0, none⟩), .pointer (some ⟨w.heap.size + 1 + 1, 0, none⟩), .pointer (some ⟨w.heap.size + 1 + 1 + 1, 0, none⟩), .int .i64 0, .pointer (some ⟨w6.heap.size + 1, 0, none⟩), .slice Aq y.1.length cq, .slice Aj y.2.length cj, undef, undef, undef, .bool false, .slice A0 l.length c0, .bool true, .bool false, .bool false, .slice A1 r.length c1, .bool true, .bool false, .bool false, .bool false, .slice A0 l.length c0, .bool true, .bool false, .bool false, .slice A1 r.length c1, .bool true, .bool false, .bool false, .slice A2 x.length c2, .int .i64 0, .int .i64 0, .bool false, undef, .slice (some ⟨w6.heap.size, 0, none⟩) 0 0, .slice A0 l.length c0, .func (.func 84) #[] #[.pointer (some ⟨W7.heap.size, 0, none⟩)], .slice Aq y.1.length cq, .slice Aj y.2.length cj, undef, undef, undef, undef, undef, undef, undef, undef, undef, undef, undef, undef, undef, undef, undef, undef, undef, undef, undef, undef, undef, undef, undef, undef, undef, undef, undef, undef, undef], defers := [] })
  (fun k S => Grow.ex fun v => Grow.ex fun out => (Grow.const _ _).and (((Grow.boxed _ _ _ _).and ((Grow.boxed _ _ _ _).and ((Grow.boxed _ _ _ _).and (Grow.boxed _ _ _ _)))).and ((Grow.boxed _ _ _ _).and ((Grow.R _ _ _ _ _ _).and ((Grow.base (by have := HS8.out; have := HSW6.out; omega) w (Nat.le_refl _)).and (Grow.const _ _))))))
  (fun c S => (Grow.const _ _).and (Grow.ex fun e => (Grow.boxed _ _ _ _).and ((Grow.boxed _ _ _ _).and ((Grow.base (by have := HS8.out; have := HSW6.out; omega) w (Nat.le_refl _)).and (Grow.const _ _))))) (fun y args => Grow.phi _ _ _)
  (fun y args a' => Grow.const _ _)
  (fun b => OwnS (w6.heap.size + 1) (.slice (some ⟨w6.heap.size, 0, none⟩) 0 0) b ∨ (b = w.heap.size + 1 + 1 ∨ b = w.heap.size + 1 + 1 + 1)) hS0 ⟨_, [], rfl, ⟨HZ2.out, HZ3.out, HZ4.out, HZ5.out⟩, HZ7.out, HO8.out, HB8.out, Nat.zero_le _, by rw [List.drop_zero]⟩ ?assign ?body ?done ?stop
 case assign =>
  rintro l' k S y args W K hx hi ⟨Aq, cq, Aj, cj, rfl, hphi⟩ hK; clear hi hphi; gi_wp2; exact hK _ _ (Below.refl _ W) ⟨Aq, cq, Aj, cj, rfl, rfl⟩
 case body =>
  rintro l' k S y args a' W hl' ⟨r0, hr0⟩ hx hSb hSl hkR ⟨v, out, rfl, ⟨bx2, bx3, bx4, bx5⟩, bx7, hRo, hBW, hout, hEE⟩ ⟨Aq, cq, Aj, cj, he1, hRr, hRj⟩ ⟨Aq2, cq2, Aj2, cj2, he2, rfl⟩; rw [he1] at he2; cases he2; have HH := Lib.hid (alR_drop hh (runsP r) out its k y hx); have hym := List.mem_of_getElem? hx; have HK := Lib.hid (show k < 4096 by have h1 := (List.getElem?_eq_some_iff.1 hx).1; have := HIL.out; omega); have HV := Lib.hid (partners_calls hh y Aq Aj A1 A2 cq cj c1 c2 r x W hRr hRj (HRR.out W hBW) HRV.out HM1.out (HRX.out W hBW) HCX.out (fun z hz => HHQ.out y z hym hz)); obtain ⟨⟨pv, ep⟩, hpv⟩ : ∃ z, partsR hh y [] (runsP r) = z := ⟨_, rfl⟩
  rw [hpv] at HV HH; have HWH := Lib.hid (fun (A : Option Addr) (c : Nat) (W1 : World) (h : Below W.heap.size W W1) (hR : Kd.R kJ tJ W1 W.heap.size (fun _ => True) (.slice A pv.length c) pv) => Where_calls Aj A cj c y.2 pv W1 (Kd.R_reads' (Kd.R_below hRj h)).2.2 (Kd.R_reads' hRj).2.1 (Kd.R_reads' hR).2.2 (Kd.R_reads' hR).2.1); obtain ⟨⟨gv, eg⟩, hgv⟩ : ∃ z, bothV whereO y.2 pv = z := ⟨_, rfl⟩
  have HWH2 := Lib.hid (fun A c W1 h hR => by have := HWH.out A c W1 h hR; unfold BothIs at this; rw [hgv] at this; exact this); simp only at HH; rw [hgv] at HH; have HBD := Lib.hid (fun (A : Option Addr) (c : Nat) (W1 : World) (h : Below W.heap.size W W1) (hR : Kd.R kJ tJ W1 0 (fun _ => True) (.slice A gv.length c) gv) => Build_calls Aq cq y.1 A c gv W1 (Kd.R_below hRr h) hR); have HBX2 := Lib.hid bx2; have HBX3 := Lib.hid bx3; have HBX4 := Lib.hid bx4; have HBX5 := Lib.hid bx5; have HBX7 := Lib.hid bx7; have HRO := Lib.hid hRo; have HBW := Lib.hid hBW; have HEE := Lib.hid hEE; have HOUT := Lib.hid hout; have HSB := Lib.hid hSb; have cl2 := bx2.cell; have cl3 := bx3.cell; obtain ⟨nq, hnq⟩ : ∃ n, y.1.length = n := ⟨_, rfl⟩
  obtain ⟨nj, hnj⟩ : ∃ n, y.2.length = n := ⟨_, rfl⟩
  rw [hnq, hnj] at HV ⊢; rw [hnj] at HWH2; rw [hnq] at HBD; clear hRr hRj bx2 bx3 bx4 bx5 bx7 hBW hEE hx he1 hSb hSl hkR hr0 hl' hRo hout hym hpv hgv HWH hnq hnj; gi_wp2; refine ⟨trivial, ?_⟩; refine (CallsIn.inRound l' (callsIn_wide.2 HV.out)).mono ?_; rintro e w9 ⟨vp, rfl, hRp, hb9⟩; obtain ⟨Ap, cp, rfl⟩ := Kd.R_slice hRp; have HBQ := Lib.hid hb9; have HW9 := Lib.hid (HWH2.out Ap cp w9 hb9 hRp); have HQ2 := Lib.hid (Boxed.below HBX2.out hb9); have HQ3 := Lib.hid (Boxed.below HBX3.out hb9); have HQ4 := Lib.hid (Boxed.below HBX4.out hb9); have HQ5 := Lib.hid (Boxed.below HBX5.out hb9); have HQ7 := Lib.hid (Boxed.below HBX7.out hb9); clear hRp hb9 cl2 cl3 HV HWH2 HBX2 HBX3 HBX4 HBX5 HBX7; simp only
  by_cases hep : ep = 0
  case neg =>
   have HH2 := Lib.hid (show alR hh (runsP r) [] its = ([], ep) by rw [HEE.out, HH.out, if_pos hep]); have be : (ep == 0) = false := beq_eq_false_iff_ne.2 hep; have HNE := Lib.hid hep; clear hep; have q4 := HQ4.out.cell; have f4 := HQ4.out.frozen; have HQ5' := Lib.hid (Boxed.other HQ5.out (B' := w.heap.size + 1 + 1) zq4 (.slice none 0 0)); have q5 := HQ5'.out.cell; have f5 := HQ5'.out.frozen; have HE1 := Lib.hid (((Step.of_below (S := (fun b => OwnS (w6.heap.size + 1) v b ∨ (b = w.heap.size + 1 + 1 ∨ b = w.heap.size + 1 + 1 + 1))) HBQ.out).trans (step_set (.inr (.inl rfl)) (.slice none 0 0))).trans (step_set (.inr (.inr rfl)) (.int .i64 ep))); have HE14 := Lib.hid (Boxed.other (HQ4.out.set (.slice none 0 0)) (B' := w.heap.size + 1 + 1 + 1) zq4 (.int .i64 ep)); have HE15 := Lib.hid (HQ5'.out.set (.int .i64 ep)); have HE1W := Lib.hid (Below.setCell (Below.setCell (HBW.out.trans (HBQ.out.mono HBW.out.size)) (p := ⟨w.heap.size + 1 + 1, 0, none⟩) zq52 (.slice none 0 0)) (p := ⟨w.heap.size + 1 + 1 + 1, 0, none⟩) (by show _ ≤ w.heap.size + 1 + 1 + 1; omega) (.int .i64 ep)); gi_wp2
   first
    | exact ⟨_, HE1.out, fun b hb => Nat.lt_of_lt_of_le (HSB.out b hb) HE1.out.size, rfl, HE14.out, ep, HE15.out, HE1W.out, HH2.out, HNE.out⟩
    | exact ⟨_, HE1.out, fun b hb => Nat.lt_of_lt_of_le (HSB.out b hb) HE1.out.size, rfl, ep, HE14.out, HE15.out, HE1W.out, HH2.out, HNE.out⟩
  case pos =>
  have HH3 := Lib.hid (show alR hh (runsP r) [] its = if eg ≠ 0 then ([], eg) else alR hh (runsP r) (out ++ buildP y.1 gv) (its.drop (k + 1)) by rw [HEE.out, HH.out, if_neg (by simp [hep])]); subst hep; obtain ⟨np, hnp⟩ : ∃ n, pv.length = n := ⟨_, rfl⟩
  rw [hnp] at HW9 ⊢; clear hnp HH HEE; gi_wp2; refine ⟨trivial, ?_⟩; refine (CallsIn.inRound l' (callsIn_wide.2 HW9.out)).mono ?_; rintro e w10 ⟨vg, rfl, hRg, hb10⟩; obtain ⟨Ag, cg, rfl⟩ := Kd.R_slice hRg; have HRG := Lib.hid (Kd.R_lower hRg (Nat.zero_le _)); have HBQ' := Lib.hid (HBQ.out.trans (hb10.mono HBQ.out.size)); have HP2 := Lib.hid (Boxed.below HQ2.out hb10); have HP3 := Lib.hid (Boxed.below HQ3.out hb10); have HP4 := Lib.hid (Boxed.below HQ4.out hb10); have HP5 := Lib.hid (Boxed.below HQ5.out hb10); have HP7 := Lib.hid (Boxed.below HQ7.out hb10); clear hRg hb10 HW9 HBQ HQ2 HQ3 HQ4 HQ5 HQ7; have HBQ := HBQ'; have HQ2 := HP2; have HQ3 := HP3; have HQ4 := HP4; have HQ5 := HP5; have HQ7 := HP7; clear HBQ' HP2 HP3 HP4 HP5 HP7; have HRG := Lib.hid (show Kd.R kJ tJ w10 0 (fun _ => True) (.slice Ag gv.length cg) gv from HRG.out); simp only
  by_cases heg : eg = 0
  case neg =>
   have HH2 := Lib.hid (show alR hh (runsP r) [] its = ([], eg) by rw [HH3.out, if_pos heg]); have be : (eg == 0) = false := beq_eq_false_iff_ne.2 heg; have HNE := Lib.hid heg; clear heg; have q4 := HQ4.out.cell; have f4 := HQ4.out.frozen; have HQ5' := Lib.hid (Boxed.other HQ5.out (B' := w.heap.size + 1 + 1) zq4 (.slice none 0 0)); have q5 := HQ5'.out.cell; have f5 := HQ5'.out.frozen; have HE1 := Lib.hid (((Step.of_below (S := (fun b => OwnS (w6.heap.size + 1) v b ∨ (b = w.heap.size + 1 + 1 ∨ b = w.heap.size + 1 + 1 + 1))) HBQ.out).trans (step_set (.inr (.inl rfl)) (.slice none 0 0))).trans (step_set (.inr (.inr rfl)) (.int .i64 eg))); have HE14 := Lib.hid (Boxed.other (HQ4.out.set (.slice none 0 0)) (B' := w.heap.size + 1 + 1 + 1) zq4 (.int .i64 eg)); have HE15 := Lib.hid (HQ5'.out.set (.int .i64 eg)); have HE1W := Lib.hid (Below.setCell (Below.setCell (HBW.out.trans (HBQ.out.mono HBW.out.size)) (p := ⟨w.heap.size + 1 + 1, 0, none⟩) zq52 (.slice none 0 0)) (p := ⟨w.heap.size + 1 + 1 + 1, 0, none⟩) (by show _ ≤ w.heap.size + 1 + 1 + 1; omega) (.int .i64 eg)); gi_wp2
   first
    | exact ⟨_, HE1.out, fun b hb => Nat.lt_of_lt_of_le (HSB.out b hb) HE1.out.size, rfl, HE14.out, eg, HE15.out, HE1W.out, HH2.out, HNE.out⟩
    | exact ⟨_, HE1.out, fun b hb => Nat.lt_of_lt_of_le (HSB.out b hb) HE1.out.size, rfl, eg, HE14.out, HE15.out, HE1W.out, HH2.out, HNE.out⟩
  case pos =>
  have HH2 := Lib.hid (show alR hh (runsP r) [] its = alR hh (runsP r) (out ++ buildP y.1 gv) (its.drop (k + 1)) by rw [HH3.out, if_neg (by simp [heg])]); subst heg; have HBD2 := Lib.hid (fun (W1 : World) (h : Below w10.heap.size w10 W1) => HBD.out Ag cg W1 (HBQ.out.trans (h.mono HBQ.out.size)) (Kd.R_below HRG.out h)); obtain ⟨ng, hng⟩ : ∃ n, gv.length = n := ⟨_, rfl⟩
  rw [hng] at HBD2 ⊢; obtain ⟨bp, hbp⟩ : ∃ z, buildP y.1 gv = z := ⟨_, rfl⟩
  have HBL := Lib.hid (show bp.length ≤ 1024 by rw [← hbp]; exact buildP_len _ _); rw [hbp] at HBD2 HH2; obtain ⟨o2, ho2⟩ : ∃ o2, out ++ bp = o2 := ⟨_, rfl⟩
  have HL2 := Lib.hid (show o2.length ≤ (k + 1) * 1024 by have h1 := HOUT.out; have h3 := HBL.out; rw [← ho2, List.length_append]; omega); rw [ho2] at HH2; have HO2 := Lib.hid ho2; clear ho2 hng hbp HH3 HBD HRG; gi_wp2; have HD6 := Lib.hid (below_drew1 HBQ.out); have HDX := Lib.hid (below_drew1 (Below.refl w10.heap.size w10)); have c7 : w10.drew.cell? ⟨w6.heap.size + 1, 0, none⟩ = some v := HQ7.out.cell; have HU2 := Lib.hid (show Boxed w10.drew (w.heap.size) 22 (.slice A1 r.length c1) from HQ2.out); have HU3 := Lib.hid (show Boxed w10.drew (w.heap.size + 1) 24 (.slice A2 x.length c2) from HQ3.out); have HU4 := Lib.hid (show Boxed w10.drew (w.heap.size + 1 + 1) 22 (.slice none 0 0) from HQ4.out); have HU5 := Lib.hid (show Boxed w10.drew (w.heap.size + 1 + 1 + 1) 27 (.int .i64 0) from HQ5.out); have HU7 := Lib.hid (show Boxed w10.drew (w6.heap.size + 1) 22 v from HQ7.out); have HRD6 := Lib.hid (Kd.R_below HRO.out HD6.out); have HOWN := Lib.hid (fun b (h : v.ownBlock = some b) => (own_ltR HRD6.out h).2); clear HQ2 HQ3 HQ4 HQ5 HQ7 HBQ; refine startIn_ (m := 6) (S := fun w' => w'.cell? ⟨w6.heap.size + 1, 0, none⟩ = some v) (ds := [4, 5]) (fun ⟨_, _, h⟩ => h) zq17 #[false, false, false, false, false, false] zq17 rfl rfl (c7) (fun hHeld => ?_); refine with_tabW alo.tab18 alo.bits18 (fun HT_ HW_ => ?_); generalize w10.drew = wD at c7 HD6 HDX HU2 HU3 HU4 HU5 HU7 HRD6 HOWN hHeld ⊢; refine pZ 1 64 ?_; refine pZ 2 65 ?_; refine take_ (i := 0) (N := some 63) (v := ?_) (a' := ?_) #[true, true, true, false, false, false] rfl rfl (take_ofW HT_.out HW_.out zq17) (fun _ _ _ h => h) (Or.inl ⟨by rfl, ?_⟩) hHeld ?_ ?_; rotate_left
  ·intro w' s0
   go_simp
   with_reducible rfl
  rotate_left
  ·simp only [Act.put, List.setIfInBounds_toArray, List.set_cons_zero, List.set_cons_succ, i64_w, i32_w]
   rfl
  refine oZ 3 66 (fun K hK => ?_); refine goes_ Tryz.func49 zq17 rfl #[.slice Aq nq cq, .slice Ag ng cg] (by rfl) rfl rfl zq67 ?_
  with_reducible refine (HBD2.out _ HDX.out).mono ?_
  rintro e w7 ⟨vb, rfl, hRb, hb7⟩; refine ⟨_, rfl, ?_⟩; obtain ⟨Ab, cb, rfl, hcb, hRd⟩ := OwnRow.reads hRb.2; have HRD := Lib.hid hRd; have HB7 := Lib.hid hb7; clear hRb hcb hRd hb7; refine hK.out _ _ (pw_cell_below HB7.out c7) (fun hHeld => ?_); clear hK K; refine nZ 66 ?_; refine last_ (i := 4) (N := some 67) #[true, true, true, true, true, false] rfl rfl (one_of HT_.out zq17) zq34 (fun K hK => ?_); refine Kd.R_append_rows_step kE (w0 := w7) w.heap.size (by rfl) (.tmp 63) (.tmp 66) 22 41 (.agg #[.slice none 0 0, (.int .i64 0), (.int .i64 0)]) 40 rfl hu22 info41 rfl zq34 zq4 v out bp _ _ _ (fun _ => True) (fun k => wD.heap.size ≤ k) rfl rfl ?aO HRD.out ?aM ?aK (fun _ _ => trivial) (Below.refl _ _) ?aS ?aL ?_
  case aO => exact Kd.R_below HRD6.out HB7.out
  case aM => exact fun z cs h => kE.M_lower (Nat.le_trans HBW.out.size HD6.out.size) (kE.M_mono (fun q hq => hq.2.1) (kE.M_bound h))
  case aK => exact fun q hq => ⟨trivial, fun e' => Nat.lt_irrefl _ (Nat.lt_of_lt_of_le (HOWN.out q e'.symm) hq)⟩
  case aS => exact Nat.le_trans HBW.out.size (Nat.le_trans HD6.out.size HB7.out.size)
  case aL => have h1 := HOUT.out; have h2 := HK.out; have h3 := HBL.out; omega
  intro v1 w8 ho hb hg hat; rw [HO2.out] at ho; obtain ⟨Az, cz, rfl⟩ := Kd.R_slice ho; have HR7 := Lib.hid (Kd.R_below HRD6.out HB7.out); have HT7 := Lib.hid (Boxed.below HU7.out HB7.out); obtain ⟨z1, z2, z3, z4, z5⟩ := box_Rt HT7.out HR7.out zq34 ho hg hat; have d7 := z1.cell; have g7 := z1.frozen; have HK2 := Lib.hid ((Boxed.below HU2.out HB7.out).kept hg (Kd.R_ne HR7.out (Boxed.below HU2.out HB7.out) zq34)); have HK3 := Lib.hid ((Boxed.below HU3.out HB7.out).kept hg (Kd.R_ne HR7.out (Boxed.below HU3.out HB7.out) zq34)); have HK4 := Lib.hid ((Boxed.below HU4.out HB7.out).kept hg (Kd.R_ne HR7.out (Boxed.below HU4.out HB7.out) zq34)); have HK5 := Lib.hid ((Boxed.below HU5.out HB7.out).kept hg (Kd.R_ne HR7.out (Boxed.below HU5.out HB7.out) zq34)); have HG := Lib.hid hg; have HZ2' := Lib.hid z2; have HZ3' := Lib.hid z3; have HZ4' := Lib.hid z4; have HZ5' := Lib.hid z5; clear z1 z2 z3 z4 z5 ho hb hg hat; refine hK.out _ _ ?_; clear hK K; refine nZ 67 ?_; refine last_ (i := 5) (N := none) #[true, true, true, true, true, true] rfl rfl (one_of HT_.out zq17) zq34 (fun K hK => ?_); refine skip_ (w1 := ?_) (by rfl) rfl ?_ ?_; rotate_left
  ·go_simp
   rfl
  refine hK.out _ _ ?_; clear hK K; refine done_ (done_of HT_.out zq17) ?_; have HY := Lib.hid (((Step.of_below (S := (fun b => OwnS (w6.heap.size + 1) v b ∨ (b = w.heap.size + 1 + 1 ∨ b = w.heap.size + 1 + 1 + 1))) (HD6.out.trans (HB7.out.mono HD6.out.size))).trans (HZ4'.out.wide (fun b => b = w.heap.size + 1 + 1 ∨ b = w.heap.size + 1 + 1 + 1)))); have HB7w := Lib.hid ((HBW.out.trans (HD6.out.mono HBW.out.size)).trans (HB7.out.mono (Nat.le_trans HBW.out.size HD6.out.size))); have hn2 : w.heap.size ≠ w6.heap.size + 1 := by have := HSW6.out; omega
  have hn3 : w.heap.size + 1 ≠ w6.heap.size + 1 := by have := HSW6.out; omega
  have hn4 : w.heap.size + 1 + 1 ≠ w6.heap.size + 1 := by have := HSW6.out; omega
  have hn5 : w.heap.size + 1 + 1 + 1 ≠ w6.heap.size + 1 := by have := HSW6.out; omega
  have HW4 := Lib.hid (Boxed.other HK4.out hn4 (.slice Az o2.length cz)); have HW5 := Lib.hid (Boxed.other HK5.out hn5 (.slice Az o2.length cz)); have HBF := Lib.hid (Below.setCell (HB7w.out.trans (grown_base HR7.out HG.out HB7w.out.size)) (p := ⟨w6.heap.size + 1, 0, none⟩) (by show _ ≤ w6.heap.size + 1; have := HSW6.out; omega) (.slice Az o2.length cz)); have HYB := Lib.hid (show ∀ b, (fun b => OwnS (w6.heap.size + 1) (.slice Az o2.length cz) b ∨ (b = w.heap.size + 1 + 1 ∨ b = w.heap.size + 1 + 1 + 1)) b → b < (w8.setCell ⟨w6.heap.size + 1, 0, none⟩ (.slice Az o2.length cz)).heap.size from fun b hb => hb.elim (HZ5'.out b) (fun hb => hb.elim (fun h => h.symm ▸ HW4.out.lt) (fun h => h.symm ▸ HW5.out.lt))); gi_wp2; exact ⟨_, HY.out, HYB.out, _, rfl, ⟨Boxed.other HK2.out hn2 _, Boxed.other HK3.out hn3 _, HW4.out, HW5.out⟩, HZ2'.out, o2, HZ3'.out, HBF.out, HL2.out, HH2.out⟩
 case done =>
  rintro D S W hD hSD hst hsb ⟨v, out, rfl, ⟨bx2, bx3, bx4, bx5⟩, bx6, hRo, hBW, hout, hEE⟩ hK; obtain ⟨Av, cv, rfl⟩ := Kd.R_slice hRo; rw [List.drop_length] at hEE; have hEE2 : alR hh (runsP r) [] its = (out, 0) := hEE; have HBI2 := Lib.hid (fun r (h : NormIs out r) => HBI.out r (.inr ⟨by rw [hEE2], by rw [hEE2]; exact h⟩)); have hD4 : D ≠ w.heap.size + 1 + 1 := by have := HS8.out; have := HSW6.out; omega
  have hD5 : D ≠ w.heap.size + 1 + 1 + 1 := by have := HS8.out; have := HSW6.out; omega
  have HD := Lib.hid (show w.heap.size ≤ D by have := HS8.out; have := HSW6.out; omega); have cl6 := bx6.cell; have HX4D := Lib.hid bx4; have HX5D := Lib.hid bx5; have HBWD := Lib.hid hBW; have HKD := Lib.hid hK; have NC := Lib.hid (NormE_calls Av cv out W (Kd.R_reads' hRo).2.2 (by have := HIL.out; omega)); clear hst hsb hSD bx2 bx3 bx4 bx5 bx6 hBW hEE hEE2 hRo hK; gi_wp2; refine ⟨trivial, ?_⟩; refine (callsIn_wide.2 NC.out).mono ?_; rintro e w7 ⟨vn, rn, hnorm, rfl, hRn, hb7⟩; obtain ⟨An, cn, rfl⟩ := Kd.R_slice hRn; have HRES := Lib.hid (HBI2.out rn hnorm); have bx4 := Boxed.below HX4D.out hb7; have bx5 := Boxed.below HX5D.out hb7; have hK7 : w7.heap[D]? = some (.deferred (some [])) := (hb7.block D (Array.getElem?_eq_some_iff.1 HKD.out).1).trans HKD.out; have hBW7 := HBWD.out.trans (hb7.mono HBWD.out.size); have hRo := Kd.R_lower hRn HBWD.out.size; have cl4 := bx4.cell; have fr4 := bx4.frozen; have HB4' := Lib.hid (Boxed.other (bx4.set (.slice An rn.1.length cn)) (B' := w.heap.size + 1 + 1 + 1) zq4 (.int .i64 rn.2)); have hb5 := Boxed.other bx5 (B' := w.heap.size + 1 + 1) zq4 (.slice An rn.1.length cn); have cl5 := hb5.cell; have fr5 := hb5.frozen; have HB5' := Lib.hid (hb5.set (.int .i64 rn.2)); have HK2 := Lib.hid (show ((w7.setCell ⟨w.heap.size + 1 + 1, 0, none⟩ (.slice An rn.1.length cn)).setCell ⟨w.heap.size + 1 + 1 + 1, 0, none⟩ (.int .i64 rn.2)).heap[D]? = some (.deferred (some [])) from ((Below.heap_setCell _ ⟨w.heap.size + 1 + 1 + 1, 0, none⟩ (.int .i64 rn.2) D hD5).trans (Below.heap_setCell w7 ⟨w.heap.size + 1 + 1, 0, none⟩ (.slice An rn.1.length cn) D hD4)).trans hK7); have HBY' := Lib.hid (Below.setCell (Below.setCell hBW7 (p := ⟨w.heap.size + 1 + 1, 0, none⟩) zq52 (.slice An rn.1.length cn)) (p := ⟨w.heap.size + 1 + 1 + 1, 0, none⟩) (by show _ ≤ w.heap.size + 1 + 1 + 1; omega) (.int .i64 rn.2)); have HRZ := Lib.hid ((Grow.R D tE w.heap.size (fun _ => True) (.slice An rn.1.length cn) rn.1).put (.deferred none) (Kd.R_set (Kd.R_set hRo bx4 zq34 0 (.slice An rn.1.length cn)) hb5 zq34 0 (.int .i64 rn.2)) (Nat.le_refl D) HK2.out rfl); clear bx4 bx5 hb5 hRo hRn hb7 hK7 hBW7 hnorm; gi_wp2; refine ⟨by simp, .inl ⟨_, _, rfl, run_takeDeferred HK2.out, ?_⟩⟩; exact ⟨_, results_c2 rfl _ _ _ rfl (Boxed.cell (put_boxed HB4'.out hD4.symm _)) (oneC_slice hu22) rfl (Boxed.cell (put_boxed HB5'.out hD5.symm _)) (oneC_int Tryz.underlying27), _, rn, HRES.out, rfl, HRZ.out, below_put (Nat.le_refl _) _ HBY'.out HD.out⟩
 case stop =>
  rintro D c S W hD hSD hst hsb ⟨rfl, e, bx4, bx5, hBW, hEE, hne⟩ hK; have HRES := Lib.hid (HBI.out ([], e) (.inl ⟨by rw [hEE]; exact hne, by rw [hEE]⟩)); have hD4 : D ≠ w.heap.size + 1 + 1 := by have := HS8.out; have := HSW6.out; omega
  have hD5 : D ≠ w.heap.size + 1 + 1 + 1 := by have := HS8.out; have := HSW6.out; omega
  have HD := Lib.hid (show w.heap.size ≤ D by have := HS8.out; have := HSW6.out; omega); have HB4' := Lib.hid bx4; have HB5' := Lib.hid bx5; have HBY' := Lib.hid hBW; have HK2 := Lib.hid hK; clear hK bx4 bx5 hBW hEE hst hsb hSD hne; gi_wp2; refine ⟨by simp, .inl ⟨_, _, rfl, run_takeDeferred HK2.out, ?_⟩⟩; exact ⟨_, results_c2 rfl _ _ _ rfl (Boxed.cell (put_boxed HB4'.out hD4.symm _)) (oneC_slice hu22) rfl (Boxed.cell (put_boxed HB5'.out hD5.symm _)) (oneC_int Tryz.underlying27), _, [], e, HRES.out, rfl, Kd.R_nil _ _ _ _ _, below_put (Nat.le_refl _) _ HBY'.out HD.out⟩
end Go.Proofs.YtmkgecapkeojaaaGreat.Eg
end
section
namespace Go.Proofs.YtmkgecapkeojaaaGreat.Eg
open Go.Proofs.YtmkgecapkeojaaaGreat Go.Proofs.YtmkgecapkeojaaaGreat.PDa
open Go.RowKit Go.Proofs.YtmkgecapkeojaaaGreatW.PrintWords Go.Proofs.YtmkgecapkeojaaaGreatW.PrintLast Go.Proofs.YtmkgecapkeojaaaGreatW.PrintMore
open Go.Proofs.YtmkgecapkeojaaaGreat.Stp Go.Proofs.YtmkgecapkeojaaaGreat.Rw Go.Proofs.YtmkgecapkeojaaaGreat.SortM
theorem hsame_calls (A0 A1 : Option Addr) (c0 c1 : Nat) (l : List EdP) (w : World) (hr0 : Kd.C kE w A0 l.length l) (hc0 : l.length ≤ c0) (hr1 : Kd.C kE w A1 l.length l) (hc1 : l.length ≤ c1) (hl : l.length ≤ 1000000000) (hrow : ∀ e ∈ l, e.f0.length ≤ 4398046511104) :
  Calls Tryz.prog 20 #[.slice A0 l.length c0, .slice A1 l.length c1] w fun e w' => e = .returned (.bool true) ∧ Below w.heap.size w w' := by
 have HA := Lib.hid hr0; have HD := Lib.hid hr1; have HRW := Lib.hid hrow; have HL := Lib.hid hl; clear hr0 hr1 hrow hc0 hc1 hl; go_enter Tryz.func20, Tryz.ntmps20; go_wp2
 go_loopw [5] (fun v5 wr => ∃ (i : Nat), i ≤ l.length ∧ v5 = .int .i64 (i : Int) ∧ Aside0 (Below w.heap.size w wr)) (fun v5 wr => l.length - (intOf v5).toNat)
 case atStart => exact ⟨0, Nat.zero_le _, rfl, ⟨Below.refl _ _⟩⟩
 case round =>
  obtain ⟨i, hi, rfl, HB⟩ := hrel; have hll := HL.out
  by_cases c : i < l.length
  ·obtain ⟨X, hX⟩ : ∃ X, l[i] = X := ⟨_, rfl⟩
   obtain ⟨ad, Ax, cx, e1, x0, x1, x2, x3, x4⟩ := at_T41 (Kd.C_below HA.out HB.out) (i : Int) zq4 zq4; obtain ⟨bd, Ay, cy, e2, y0, y1, y2, y3, y4⟩ := at_T41 (Kd.C_below HD.out HB.out) (i : Int) zq4 zq4; rw [Int.toNat_natCast, rdE l i c, hX] at x0 x1 x2 y0 y1 y2; rw [rdE l i c, hX] at x3 x4 y3 y4; cases e1; cases e2; have hs := same06 X.f0 X.f0 (HRW.out X (by rw [← hX]; exact List.getElem_mem c)); rw [eqR_refl] at hs; obtain ⟨ks, hks⟩ := hs.get; have CM := Lib.hid (fun (p : BelowOf wr) => (show Calls Tryz.prog 53 #[.slice Ax X.f0.length cx, .slice Ay X.f0.length cy] p.W (fun e w' => e = .returned (.bool true) ∧ Below p.W.heap.size p.W w') from (r06_Same.calls ks Ax cx X.f0 Ay cy X.f0 true p.W (Kd.C_below x4 p.h) x3 (Kd.C_below y4 p.h) y3 hks).mono fun e w' z => ⟨z.1, z.2.below⟩)); have x0' := fun p => BelowOf.cell x0 p
   have x1' := fun p => BelowOf.cell x1 p
   have x2' := fun p => BelowOf.cell x2 p
   have y0' := fun p => BelowOf.cell y0 p
   have y1' := fun p => BelowOf.cell y1 p
   have y2' := fun p => BelowOf.cell y2 p
   have pI : (0 ≤ (i : Int)) = True := eq_true zq4; have qI : ((i : Int) < (l.length : Int)) = True := eq_true zq4; clear x3 x4 y3 y4 hs hks hX; go_wp2; refine wp_region_quiet_below zq17 zq17 ?_
   repeat (go_big_quiet_step (exact below_calls (CM.out _)))
   refine wpQuiet_nil ?_; intro wq hw1; have HWQ := Lib.hid (show Below wr.heap.size wr wq by obtain ⟨p, rfl⟩ := hw1; exact p.h); have HBN := Lib.hid (HB.out.trans (HWQ.out.mono HB.out.size)); clear hw1 x0' x1' x2' y0' y1' y2' x0 x1 x2 y0 y1 y2; go_wp2; go_roundw
   case rel => exact ⟨i + 1, by omega, by go_num, ⟨HBN.out⟩⟩
   case measure => simp [intOf]; omega
  ·obtain rfl : i = l.length := by omega
   go_wp2; go_ret; exact ⟨rfl, HB.out⟩
end Go.Proofs.YtmkgecapkeojaaaGreat.Eg
end
section
namespace Go.Proofs.YtmkgecapkeojaaaGreat.Eg
open Go.Proofs.YtmkgecapkeojaaaGreat Go.Proofs.YtmkgecapkeojaaaGreat.PDa
open Go.RowKit Go.Proofs.YtmkgecapkeojaaaGreatW.PrintWords Go.Proofs.YtmkgecapkeojaaaGreatW.PrintLast Go.Proofs.YtmkgecapkeojaaaGreatW.PrintMore
open Go.Proofs.YtmkgecapkeojaaaGreat.Stp Go.Proofs.YtmkgecapkeojaaaGreat.Rw
structure Hold (p : Prop) : Prop where
 out : p
theorem hold_intro {p : Prop} (h : Hold p) : p := h.out
def v1 : Vl := ⟨1, 1, ⟨#[]⟩⟩
def v2 : Vl := ⟨1, 2, ⟨#[]⟩⟩
def e1 : EdP := ⟨[v1], 2, 1⟩
def e2 : EdP := ⟨[v1], 5, -1⟩
def e3 : EdP := ⟨[v2], 5, 1⟩
theorem C_lit {α : Type} {d : Kd α} {W : World} {B : Nat} {t : TypeId} {cs : Array Value} {ps qs : List α} {inner : List Value} {n : Nat} (hq : ps = qs) (hb : W.heap[B]? = some (.cells cs t (0, 0))) (hi : cs.toList = inner) (hn : qs.length = n) (hn2 : n ≤ 100) (hr : Reps (d.K W) d.sz ps inner) : Kd.C d W (some ⟨B, 0, none⟩) n qs := by
 subst hq; subst hn; have ho : OwnRow (d.K W) t d.sz W 0 (.slice (some ⟨B, 0, none⟩) ps.length ps.length) ps := ⟨inner, ⟨hr.1, .inr ⟨B, ps.length, cs, rfl, Nat.zero_le _, hb, Nat.le_refl _, by unfold maxLen; omega, by rw [← Array.length_toList, hi, hr.1], by rw [hi, List.take_of_length_le (by rw [hr.1]; exact Nat.le_refl _)]⟩⟩, hr⟩
 obtain ⟨A, c, he, _, h⟩ := OwnRow.reads ho; cases he; exact h
end Go.Proofs.YtmkgecapkeojaaaGreat.Eg
end
section
namespace Go.Proofs.YtmkgecapkeojaaaGreat.Eg
open Go.Proofs.YtmkgecapkeojaaaGreat Go.Proofs.YtmkgecapkeojaaaGreat.PDa
open Go.RowKit Go.Proofs.YtmkgecapkeojaaaGreatW.PrintWords Go.Proofs.YtmkgecapkeojaaaGreatW.PrintLast Go.Proofs.YtmkgecapkeojaaaGreatW.PrintMore
open Go.Proofs.YtmkgecapkeojaaaGreat.Stp Go.Proofs.YtmkgecapkeojaaaGreat.Run Go.Proofs.YtmkgecapkeojaaaGreat.Rw
structure Hold2 (p : Prop) : Prop where
 out : p
end Go.Proofs.YtmkgecapkeojaaaGreat.Eg
end
section
namespace Go.Proofs.YtmkgecapkeojaaaGreat.Eg
open Go.Proofs.YtmkgecapkeojaaaGreat Go.Proofs.YtmkgecapkeojaaaGreat.PDa
open Go.RowKit Go.Proofs.YtmkgecapkeojaaaGreatW.PrintWords Go.Proofs.YtmkgecapkeojaaaGreatW.PrintLast Go.Proofs.YtmkgecapkeojaaaGreatW.PrintMore
open Go.Proofs.YtmkgecapkeojaaaGreat.Stp Go.Proofs.YtmkgecapkeojaaaGreat.Rw
def Ans (r : List EdP × Int) (w : World) (e : Ending) (w' : World) : Prop := ∃ A c, e = .returned (.tuple #[.slice A r.1.length c, .int .i64 r.2]) ∧ Kd.C kE w' A r.1.length r.1 ∧ r.1.length ≤ c ∧ Below w.heap.size w w'
theorem normV_cases (l : List EdP) : (okN l ∧ Fit (flat l) ∧ normV l = (flat l, 0)) ∨ ∃ k, k ≠ 0 ∧ normV l = ([], k) := by
 by_cases h : (normV l).2 = 0
 ·exact .inl (okN_of_norm h)
 ·refine .inr ⟨(normV l).2, h, ?_⟩
  by_cases hok : okN l
  ·rcases normV_flat hok with ⟨_, h2⟩ | ⟨_, h2⟩
   ·rw [h2] at h; exact absurd rfl h
   ·rw [h2]
  ·unfold normV
   split
   ·rfl
   ·split
    ·rfl
    ·rename_i h1 h2
     rw [Bool.not_eq_true, List.any_eq_false] at h1 h2; exact absurd ⟨fun e he => by simpa using h1 e he, fun e he => by simpa using h2 e he⟩ hok
theorem okEs_sub {l l' : List EdP} (h : PDd.okEs l = true) (hs : ∀ e ∈ l', ∃ e' ∈ l, e'.f0 = e.f0) : PDd.okEs l' = true := by
 unfold PDd.okEs at h ⊢; rw [List.all_eq_true] at h ⊢; intro e he; obtain ⟨e', he', h1⟩ := hs e he; have := h e' he'; rw [h1] at this; exact this
end Go.Proofs.YtmkgecapkeojaaaGreat.Eg
end
section
namespace Go.Proofs.YtmkgecapkeojaaaGreat.Eg
open Go.Proofs.YtmkgecapkeojaaaGreat Go.Proofs.YtmkgecapkeojaaaGreat.PDa
open Go.Proofs.YtmkgecapkeojaaaGreat.EvP (evalV formV holdsV)
open Go.RowKit Go.Proofs.YtmkgecapkeojaaaGreatW.PrintWords Go.Proofs.YtmkgecapkeojaaaGreat.Stp Go.Proofs.YtmkgecapkeojaaaGreat.Rw Go.Proofs.YtmkgecapkeojaaaGreat.Cmp Go.Proofs.YtmkgecapkeojaaaGreat.Canon
def Wt (φ : List Vl → Int) (t : Int) (l : List EdP) : Int := S (fun k => if k.2 ≤ t then φ k.1 else 0) (l.map pE)
theorem Wt_append (φ : List Vl → Int) (t : Int) (a b : List EdP) : Wt φ t (a ++ b) = Wt φ t a + Wt φ t b := by unfold Wt; rw [List.map_append, S_append]
theorem Wt_J (φ : List Vl → Int) (t : Int) {a b : List EdP} (h : ∀ k, JE a k = JE b k) : Wt φ t a = Wt φ t b := S_congr _ h
theorem Wt_nil (φ : List Vl → Int) (t : Int) : Wt φ t [] = 0 := rfl
theorem Wt_cons (φ : List Vl → Int) (t : Int) (e : EdP) (es : List EdP) : Wt φ t (e :: es) = (if e.f1 ≤ t then φ e.f0 else 0) * e.f2 + Wt φ t es := rfl
theorem Wt_put (φ : List Vl → Int) (t : Int) (r : List Vl) : ∀ f : List Jp, Wt φ t (putP [] r f) = φ r * valI f t
 | [] => by simp [putP, Wt_nil, valI]
 | j :: js => by
  have e : putP [] r (j :: js) = ⟨r, j.f0, j.f1⟩ :: putP [] r js := rfl; rw [e, Wt_cons, Wt_put φ t r js, valI]
  split
  ·rw [Int.mul_add]
  ·simp
def Sm {α : Type} (f : α → Int) : List α → Int
 | [] => 0
 | x :: xs => f x + Sm f xs
theorem Sm_congr {α : Type} {f g : α → Int} : ∀ {l : List α}, (∀ x ∈ l, f x = g x) → Sm f l = Sm g l
 | [], _ => rfl
 | x :: xs, h => by rw [Sm, Sm, h x List.mem_cons_self, Sm_congr fun y hy => h y (List.mem_cons_of_mem _ hy)]
theorem Sm_map {α β : Type} (f : β → Int) (g : α → β) : ∀ l : List α, Sm f (l.map g) = Sm (fun x => f (g x)) l
 | [] => rfl
 | x :: xs => by rw [List.map_cons, Sm, Sm, Sm_map f g xs]
theorem Sm_mul {α : Type} (c : Int) (f : α → Int) : ∀ l : List α, Sm (fun x => c * f x) l = c * Sm f l
 | [] => by simp [Sm]
 | x :: xs => by rw [Sm, Sm, Sm_mul c f xs, Int.mul_add]
theorem Wt_flatMap {α : Type} (φ : List Vl → Int) (t : Int) (g : α → List EdP) : ∀ l : List α, Wt φ t (l.flatMap g) = Sm (fun x => Wt φ t (g x)) l
 | [] => rfl
 | x :: xs => by rw [List.flatMap_cons, Wt_append, Wt_flatMap φ t g xs, Sm]
theorem Wt_flatG (φ : List Vl → Int) (t : Int) (G : List Gr) : Wt φ t (flatG G) = Sm (fun x => φ x.1 * valI x.2 t) G := by
 unfold flatG; rw [Wt_flatMap]; exact Sm_congr fun x _ => Wt_put φ t x.1 x.2
theorem Wt_runs (φ : List Vl → Int) (t : Int) (l : List EdP) : Sm (fun x => φ x.1 * valI x.2 t) (runsP l) = Wt φ t l := by rw [← Wt_flatG, runs_flat]
theorem Wt_val (r : List Vl) (t : Int) (l : List EdP) : valI (jumpsOf l r) t = Wt (fun q => if q = r then 1 else 0) t l := by
 rw [val_split]; unfold Wt
 congr 1
 funext k
 by_cases h : k.1 = r <;> by_cases h2 : k.2 ≤ t <;> simp [h, h2]
theorem joinV_ok {a b c : List Vl} (h : joinV a b = (c, 0)) : rowMay a = true ∧ rowMay b = true ∧ a.length + b.length ≤ 8 ∧ c = a ++ b := by
 unfold joinV at h
 by_cases h1 : (rowMay a && rowMay b) = true
 ·rw [if_pos h1] at h
  rw [Bool.and_eq_true] at h1
  by_cases h2 : 8 < a.length + b.length
  ·rw [if_pos h2] at h; cases h
  ·rw [if_neg h2] at h
   exact ⟨h1.1, h1.2, by omega, (congrArg Prod.fst h).symm⟩
 ·rw [if_neg h1] at h; cases h
theorem J_Wt (r : List Vl) (t : Int) : ∀ l : List EdP, JE l (r, t) = Wt (fun q => if q = r then 1 else 0) t l - Wt (fun q => if q = r then 1 else 0) (t - 1) l
 | [] => rfl
 | e :: es => by
  show J (pE e :: es.map pE) (r, t) = _
  rw [J_cons, show J (es.map pE) (r, t) = JE es (r, t) from rfl, J_Wt r t es, Wt_cons, Wt_cons]
  show (if (e.f0, e.f1) = (r, t) then e.f2 else 0) + _ = _
  have h9 : (t ≤ t - 1) = False := eq_false (by omega)
  by_cases h : e.f0 = r <;> by_cases h2 : e.f1 = t <;> by_cases h4 : e.f1 ≤ t <;> by_cases h5 : e.f1 ≤ t - 1 <;> first | (exfalso; omega) | (simp only [h, h2, h4, h5, h9, Prod.mk.injEq, and_true, true_and, and_false, false_and, if_true, if_false, Int.le_refl]; first | omega | (simp; try omega))
end Go.Proofs.YtmkgecapkeojaaaGreat.Eg
end
section
namespace Go.Proofs.YtmkgecapkeojaaaGreat.Eg
open Go.Proofs.YtmkgecapkeojaaaGreat Go.Proofs.YtmkgecapkeojaaaGreat.PDa Go.Proofs.YtmkgecapkeojaaaGreat.EvP
open Go.RowKit Go.Proofs.YtmkgecapkeojaaaGreatW.PrintWords Go.Proofs.YtmkgecapkeojaaaGreatW.PrintLast Go.Proofs.YtmkgecapkeojaaaGreatW.PrintMore
open Go.Proofs.YtmkgecapkeojaaaGreat.Stp Go.Proofs.YtmkgecapkeojaaaGreat.Rw
theorem nilT : (⟨#[]⟩ : ByteArray).toList = [] := (toList_nil_iff_emptyBytes _).2 rfl
theorem rowMay1 (a : Int) : rowMay [⟨1, a, ⟨#[]⟩⟩] = true := by simp [rowMay, thOf, nilT]
theorem thO_num (a : Int) : thO (Th.num a) = some (Th.num a) := by
 simp [thO, thVal3, thOf]
def v7 : Rw.Vl := ⟨1, 7, ⟨#[]⟩⟩
def a2 : EdP := ⟨[v1], 9, -1⟩
def b1 : EdP := ⟨[v7], 5, 1⟩
def b2 : EdP := ⟨[v7], 12, -1⟩
def jx2 : List Op8 := [⟨3, 0, ⟨#[]⟩⟩, ⟨3, 1, ⟨#[]⟩⟩, ⟨13, 0, ⟨#[]⟩⟩]
def p1 : EdP := ⟨[v1, v7], 5, 1⟩
def p2 : EdP := ⟨[v1, v7], 9, -1⟩
def jt2 : T := .b ⟨13, 0, ⟨#[]⟩⟩ (.l ⟨3, 0, ⟨#[]⟩⟩) (.l ⟨3, 1, ⟨#[]⟩⟩)
theorem jt2_ok : jt2.ok := by
 refine ⟨?_, by decide, ⟨?_, by decide⟩, ⟨?_, by decide⟩⟩ <;> simp [okW, noT, nilT, takes]
theorem jx2_form : formV jx2 = 0 := by
 have h := parse_fl jt2 jt2_ok [] []; rw [List.append_nil] at h; have e : jt2.fl = jx2 := rfl; unfold formV; rw [if_neg zq34, ← e, h]; rfl
theorem runs2 (r : List Rw.Vl) (a b c d : Int) : runsP [⟨r, a, b⟩, ⟨r, c, d⟩] = [(r, [⟨a, b⟩, ⟨c, d⟩])] := by simp [runsP, runAt, eqR_refl, jmpE]
theorem may2 (r : List Rw.Vl) (a b c d : Int) (hr : rowMay r = true) (hm : mayJ [⟨a, b⟩, ⟨c, d⟩] = true) : mayE [⟨r, a, b⟩, ⟨r, c, d⟩] = true := by
 unfold mayE eachP; rw [runs2]; simp only [eachR, lastB, hr, hm]
 rfl
def aloneV (hh : List Rw.Vl → Bool × Int) (ef : Int) (l r : List EdP) : List EdP × Int :=
 if (mayE l && mayE r) = true then (if (tableE l && tableE r) = true then (if ef ≠ 0 then ([], ef) else if (alR hh (runsP r) [] (runsP l)).2 ≠ 0 then ([], (alR hh (runsP r) [] (runsP l)).2) else normV (alR hh (runsP r) [] (runsP l)).1) else ([], 20)) else ([], 2)
theorem alone_is {hh : List Rw.Vl → Bool × Int} {ef : Int} {l r : List EdP} {o : List EdP × Int} (h : AloneIs hh ef l r o) : o = aloneV hh ef l r := by
 unfold aloneV
 rcases h with ⟨h1, h2⟩ | ⟨h1, h2, h3⟩ | ⟨h1, h2, h3, h4⟩ | ⟨⟨h1, h2, h3⟩, ⟨h4, h5⟩ | ⟨h4, h5⟩⟩
 ·rw [if_neg (by rw [h1]; decide), h2]
 ·rw [if_pos h1, if_neg (by rw [h2]; decide), h3]
 ·rw [if_pos h1, if_pos h2, if_pos h3, h4]
 ·rw [if_pos h1, if_pos h2, if_neg (by simpa using h3), if_pos h4, h5]
 ·rw [if_pos h1, if_pos h2, if_neg (by simpa using h3), if_neg (by simpa using h4)]; exact norm_is h5
theorem holds_ok {x : List Op8} {l r : List EdP} (hl : PDd.okEs l = true) (hr : PDd.okEs r = true) (hx : PDd.okXs x = true) (a b : List Rw.Vl × List Jp) (ha : ∃ e ∈ l, a.1 = e.f0) (hb : ∃ e ∈ r, b.1 = e.f0) (hj : (joinV a.1 b.1).2 = 0) : ∃ k, eval_Holds.f k x (joinV a.1 b.1).1 = some (EvP.holdsV x (joinV a.1 b.1).1) := by
 obtain ⟨⟨c, ec⟩, hc⟩ : ∃ z, joinV a.1 b.1 = z := ⟨_, rfl⟩
 rw [hc] at hj ⊢; simp only at hj; subst hj; obtain ⟨_, _, _, rfl⟩ := joinV_ok hc; obtain ⟨e, he, e1⟩ := ha; obtain ⟨f, hf, f1⟩ := hb; refine (EvP.holds_E x _ ⟨(PDd.okX hl hx e he).x, fun v hv => ?_⟩).get
 rcases List.mem_append.1 hv with hv | hv
 ·exact (PDd.okX hl hx e he).row v (e1 ▸ hv)
 ·exact (PDd.okX hr hx f hf).row v (f1 ▸ hv)
theorem alone_any (A0 A1 A2 : Option Addr) (c0 c1 c2 : Nat) (l r : List EdP) (x : List Op8) (w : World) (hr0 : Kd.C kE w A0 l.length l) (hr1 : Kd.C kE w A1 r.length r) (hr2 : Kd.C kO w A2 x.length x) (hc2 : x.length ≤ c2) (hl : PDd.okEs l = true) (hr : PDd.okEs r = true) (hx : PDd.okXs x = true) :
  Calls Tryz.prog 44 #[.slice A0 l.length c0, .slice A1 r.length c1, .slice A2 x.length c2] w (Ans (aloneV (EvP.holdsV x) (EvP.formV x) l r) w) := by
 refine (Alone_calls (EvP.holdsV x) (EvP.formV x) A0 A1 A2 c0 c1 c2 l r x w hr0 (PDd.okEs_row hl) hr1 (PDd.okEs_row hr) hr2 hc2 (fun a b ha hb hj => holds_ok hl hr hx a b (runs_mem l a ha).1 (runs_mem r b hb).1 hj) (EvP.form_E x).get).mono ?_; rintro e w' ⟨v, o, ho, rfl, hR, hb⟩; obtain rfl := alone_is ho; obtain ⟨A, c, rfl⟩ := Kd.R_slice hR; exact ⟨A, c, rfl, (Kd.R_reads' hR).2.2, (Kd.R_reads' hR).2.1, hb⟩
theorem PartnersOk_calls (hh : List Rw.Vl → Bool × Int) (x : Gq) (Ar Af A0 A1 : Option Addr) (cr cf c0 c1 : Nat) (l : List EdP) (ex : List Op8) (w : World) (ha : Kd.R kV tV w 0 (fun _ => True) (.slice Ar x.1.length cr) x.1) (hf : Kd.R kJ tJ w 0 (fun _ => True) (.slice Af x.2.length cf) x.2)
  (hr0 : Kd.C kE w A0 l.length l) (hrow : ∀ e ∈ l, e.f0.length ≤ 4398046511104) (hm : mayE l = true) (ht : tableE l = true) (h1 : rowMay x.1 = true) (h2 : mayJ x.2 = true) (hr1 : Kd.C kO w A1 ex.length ex) (hc1 : ex.length ≤ c1) (hhk : ∀ y ∈ runsP l, (joinV x.1 y.1).2 = 0 → ∃ k, eval_Holds.f k ex (joinV x.1 y.1).1 = some (hh (joinV x.1 y.1).1)) (hfk : ∃ k, expr_Form.f k ex = some 0) :
  Calls Tryz.prog 41 #[.slice Ar x.1.length cr, .slice Af x.2.length cf, .slice A0 l.length c0, .slice A1 ex.length c1] w fun e w' => ∃ v, e = .returned (.tuple #[v, .int .i64 (partsR hh x [] (runsP l)).2]) ∧ Kd.R kJ tJ w' w.heap.size (fun _ => True) v (partsR hh x [] (runsP l)).1 ∧ Below w.heap.size w w' := by
 have M1 := Lib.hid (fun (w1 : World) (h : Below w.heap.size w w1) => row_May.calls Ar cr x.1 (rowMay x.1) w1 (Kd.R_reads' (Kd.R_below ha h)).2.2 (Kd.R_reads' ha).2.1 rfl); have M2 := Lib.hid (fun (w1 : World) (h : Below w.heap.size w w1) => may_any Af cf x.2 w1 (Kd.R_reads' (Kd.R_below hf h)).2.2 (Kd.R_reads' hf).2.1); have M3 := Lib.hid (fun (w1 : World) (h : Below w.heap.size w w1) => May_calls A0 c0 l w1 (Kd.C_below hr0 h) hrow); have M4 := Lib.hid (fun (w1 : World) (h : Below w.heap.size w w1) => Table_calls A0 c0 l w1 (Kd.C_below hr0 h) hrow); have FC := Lib.hid (fun (w1 : World) (h : Below w.heap.size w w1) => (show Calls Tryz.prog 47 #[.slice A1 ex.length c1] w1 fun e w' => e = .returned (.int .i64 0) ∧ Below w1.heap.size w1 w' from hfk.elim fun k hk => expr_Form.calls k A1 c1 ex 0 w1 (Kd.C_below hr1 h) hc1 hk)); have PC := Lib.hid (fun (w1 : World) (h : Below w.heap.size w w1) => partners_calls hh x Ar Af A0 A1 cr cf c0 c1 l ex w1 (Kd.R_below ha h) (Kd.R_below hf h) (Kd.C_below hr0 h) hrow hm (Kd.C_below hr1 h) hc1 hhk); rw [h1] at M1; rw [h2] at M2; rw [hm] at M3; rw [ht] at M4; obtain ⟨o, ho⟩ : ∃ o, partsR hh x [] (runsP l) = o := ⟨_, rfl⟩
 rw [ho] at PC ⊢; obtain ⟨nr, hnr⟩ : ∃ n, x.1.length = n := ⟨_, rfl⟩
 obtain ⟨nf, hnf⟩ : ∃ n, x.2.length = n := ⟨_, rfl⟩
 rw [hnr] at M1 PC ⊢; rw [hnf] at M2 PC ⊢; clear ha hf hr0 hrow hm ht h1 h2 hr1 hc1 hhk hfk ho hnr hnf; go_enter Tryz.func41, Tryz.ntmps41
 go_wp2_with fail
 refine (M1.out _ (Below.refl _ _)).mono ?_; rintro e w1 ⟨rfl, hb⟩; have HB1 := Lib.hid hb; clear hb
 go_wp2_with fail
 refine (M2.out _ HB1.out).mono ?_; rintro e w2 ⟨rfl, hb⟩; have HB2 := Lib.hid (HB1.out.trans (hb.mono HB1.out.size)); clear hb
 go_wp2_with fail
 refine (M3.out _ HB2.out).mono ?_; rintro e w3 ⟨rfl, hb⟩; have HB3 := Lib.hid (HB2.out.trans (hb.mono HB2.out.size)); clear hb
 go_wp2_with fail
 refine (M4.out _ HB3.out).mono ?_; rintro e w4 ⟨rfl, hb⟩; have HB4 := Lib.hid (HB3.out.trans (hb.mono HB3.out.size)); clear hb
 go_wp2_with fail
 refine (FC.out _ HB4.out).mono ?_; rintro e w5 ⟨rfl, hb⟩; have HB5 := Lib.hid (HB4.out.trans (hb.mono HB4.out.size)); clear hb
 go_wp2_with fail
 refine (PC.out _ HB5.out).mono ?_; rintro e w6 ⟨v, rfl, hR, hb⟩; have HR := Lib.hid (Kd.R_lower hR HB5.out.size); have HB6 := Lib.hid (HB5.out.trans (hb.mono HB5.out.size)); clear hR hb; go_wp2; go_ret2; exact ⟨v, rfl, HR.out, HB6.out⟩
def r1 : EdP := ⟨[v1], 4, 1⟩
def r2 : EdP := ⟨[v1], 6, -1⟩
theorem may11 : rowMay [v1, v1] = true := by simp [rowMay, thOf, nilT, v1]
theorem jx2_w : holdsV jx2 [v1, v1] = (true, 0) := by
 have e : jt2.fl = jx2 := rfl; have h : evalV jx2 [v1, v1] = (1, 1, ⟨#[]⟩, 0) := by
  rw [← e, evalV_T jt2 jt2_ok _ (by rw [e]; exact jx2_form) may11]; simp [T.ev, jt2, evL, evB, v1, compareS, getTh, rd_T65, outV, thVal3, Except.map]; simp only [thO_num]
  rfl
 unfold holdsV; rw [h]
 rfl
theorem join11 : joinV [v1] [v1] = ([v1, v1], 0) := by
 unfold joinV; rw [show rowMay [v1] = true from rowMay1 1]
 rfl
theorem table2 (r : List Rw.Vl) (a b c d : Int) (hr : rowMay r = true) (hm : tabJ [⟨a, b⟩, ⟨c, d⟩] = true) : tableE [⟨r, a, b⟩, ⟨r, c, d⟩] = true := by
 unfold tableE eachP; rw [runs2]; simp only [eachR, lastB, hr, hm]
 rfl
theorem part_of (f h : List Jp) (hb : bothV (· * ·) f [⟨4, 1⟩, ⟨6, -1⟩] = (h, 0)) (hn : h ≠ []) : partsR (holdsV jx2) ([v1], f) [] [([v1], [⟨4, 1⟩, ⟨6, -1⟩])] = ([⟨4, 1⟩, ⟨6, -1⟩], 0) := by
 have ep : partnerV (holdsV jx2) ([v1], f) ([v1], [⟨4, 1⟩, ⟨6, -1⟩]) = (true, 0) := by
  unfold partnerV; simp only [hb, join11]; rw [if_neg zq34, if_neg hn, if_neg zq34]; exact jx2_w
 have ea : askV (holdsV jx2) ([v1], f) [] ([v1], [⟨4, 1⟩, ⟨6, -1⟩]) = ([⟨4, 1⟩, ⟨6, -1⟩], 0) := by
  unfold askV; rw [ep, if_pos ⟨rfl, rfl⟩]
  rfl
 simp only [partsR, ea]; rw [if_neg zq34]
theorem factA1 : aloneV (holdsV jx2) (formV jx2) [e1, a2] [r1, r2] = ([e1, ⟨[v1], 4, -1⟩, ⟨[v1], 6, 1⟩, a2], 0) := by
 have m1 : mayE [e1, a2] = true := may2 [v1] 2 1 9 (-1) (rowMay1 1) rfl; have m2 : mayE [r1, r2] = true := may2 [v1] 4 1 6 (-1) (rowMay1 1) rfl; have t1 : tableE [e1, a2] = true := table2 [v1] 2 1 9 (-1) (rowMay1 1) rfl; have t2 : tableE [r1, r2] = true := table2 [v1] 4 1 6 (-1) (rowMay1 1) rfl; have hp : partsR (holdsV jx2) ([v1], [⟨2, 1⟩, ⟨9, -1⟩]) [] [([v1], [⟨4, 1⟩, ⟨6, -1⟩])] = ([⟨4, 1⟩, ⟨6, -1⟩], 0) := part_of _ [⟨4, 1⟩, ⟨6, -1⟩] rfl zq34; have hw : bothV whereO [⟨2, 1⟩, ⟨9, -1⟩] [⟨4, 1⟩, ⟨6, -1⟩] = ([⟨2, 1⟩, ⟨4, -1⟩, ⟨6, 1⟩, ⟨9, -1⟩], 0) := by rfl
 have hb : buildP [v1] [⟨2, 1⟩, ⟨4, -1⟩, ⟨6, 1⟩, ⟨9, -1⟩] = [e1, ⟨[v1], 4, -1⟩, ⟨[v1], 6, 1⟩, a2] := by
  unfold buildP; rw [show rowMay [v1] = true from rowMay1 1]
  rfl
 have m3 : mayE [e1, ⟨[v1], 4, -1⟩, ⟨[v1], 6, 1⟩, a2] = true := by
  unfold mayE eachP; rw [show runsP [e1, ⟨[v1], 4, -1⟩, ⟨[v1], 6, 1⟩, a2] = [([v1], [⟨2, 1⟩, ⟨4, -1⟩, ⟨6, 1⟩, ⟨9, -1⟩])] by simp [runsP, runAt, eqR_refl, jmpE, e1, a2]]; simp only [eachR, lastB, show rowMay [v1] = true from rowMay1 1]
  rfl
 have ha : alR (holdsV jx2) [([v1], [⟨4, 1⟩, ⟨6, -1⟩])] [] [([v1], [⟨2, 1⟩, ⟨9, -1⟩])] = ([e1, ⟨[v1], 4, -1⟩, ⟨[v1], 6, 1⟩, a2], 0) := by
  simp only [alR, hp, hw, hb, List.nil_append]; rw [if_neg zq34, if_neg zq34]
 unfold aloneV; rw [m1, m2, t1, t2, if_pos (by rfl), if_pos (by rfl), jx2_form, if_neg zq34, show runsP [e1, a2] = [([v1], [⟨2, 1⟩, ⟨9, -1⟩])] from runs2 _ _ _ _ _, show runsP [r1, r2] = [([v1], [⟨4, 1⟩, ⟨6, -1⟩])] from runs2 _ _ _ _ _, ha, if_neg zq30]; exact ((mayE_iff _).1 m3).norm
theorem factA2 : partsR (holdsV jx2) ([v1], [⟨0, 1⟩]) [] (runsP [r1, r2]) = ([⟨4, 1⟩, ⟨6, -1⟩], 0) := by
 rw [show runsP [r1, r2] = [([v1], [⟨4, 1⟩, ⟨6, -1⟩])] from runs2 _ _ _ _ _]; exact part_of [⟨0, 1⟩] [⟨4, 1⟩, ⟨6, -1⟩] rfl zq34
theorem R_lit0 {α : Type} {d : Kd α} {W : World} {B : Nat} {t : TypeId} {cs : Array Value} {ps : List α} {inner : List Value} (hb : W.heap[B]? = some (.cells cs t (0, 0))) (hi : cs.toList = inner) (hn : ps.length ≤ 100)
  (hr : Reps (d.M W 0 (fun k => (fun _ => True) k ∧ some k ≠ (Value.slice (some ⟨B, 0, none⟩) ps.length ps.length).ownBlock)) d.sz ps inner) : d.R t W 0 (fun _ => True) (.slice (some ⟨B, 0, none⟩) ps.length ps.length) ps :=
 ⟨fun _ _ => trivial, inner, ⟨hr.1, .inr ⟨B, ps.length, cs, rfl, Nat.zero_le _, hb, Nat.le_refl _, by unfold maxLen; omega, by rw [← Array.length_toList, hi, hr.1], by rw [hi, List.take_of_length_le (by rw [hr.1]; exact Nat.le_refl _)]⟩⟩, hr⟩
theorem liveA_calls (w : World) : Calls Tryz.prog 40 #[] w fun e w' => e = .returned (.bool true) ∧ Below w.heap.size w w' := by
 go_enter Tryz.func40, Tryz.ntmps40
 go_wp2_with (go_at_call 44; refine hold_intro ?_)
 refine ⟨?_⟩; obtain ⟨W1, hW1⟩ : ∃ W1, (((w.alloc (.cells #[.int .i64 1, .int .i64 1, .string ⟨#[]⟩] 65 (0, 0))).alloc (.cells #[.slice (some ⟨w.heap.size, 0, none⟩) 1 1, .int .i64 2, .int .i64 1, .slice (some ⟨w.heap.size, 0, none⟩) 1 1, .int .i64 9, .int .i64 (-1)] 41 (0, 0))).alloc (.cells #[.slice (some ⟨w.heap.size, 0, none⟩) 1 1, .int .i64 4, .int .i64 1, .slice (some ⟨w.heap.size, 0, none⟩) 1 1, .int .i64 6, .int .i64 (-1)] 41 (0, 0))).alloc (.cells #[.int .i64 3, .int .i64 0, .string ⟨#[]⟩, .int .i64 3, .int .i64 1, .string ⟨#[]⟩, .int .i64 13, .int .i64 0, .string ⟨#[]⟩] 68 (0, 0)) = W1 := ⟨_, rfl⟩
 have hsW1 : W1.heap.size = w.heap.size + 4 := by rw [← hW1]; simp
 have hbW1 : Below w.heap.size w W1 := by rw [← hW1]; exact below_alloc (below_alloc (below_alloc (below_alloc (Below.refl _ w) _) _) _) _
 have k0 : W1.heap[w.heap.size]? = some (.cells #[.int .i64 1, .int .i64 1, .string ⟨#[]⟩] 65 (0, 0)) := by
  have h1 := blk_new (w) (.cells #[.int .i64 1, .int .i64 1, .string ⟨#[]⟩] 65 (0, 0)); rw [← hW1]; exact blk_alloc (blk_alloc (blk_alloc (h1) _) _) _
 have k2 : W1.heap[w.heap.size + 1]? = some (.cells #[.slice (some ⟨w.heap.size, 0, none⟩) 1 1, .int .i64 2, .int .i64 1, .slice (some ⟨w.heap.size, 0, none⟩) 1 1, .int .i64 9, .int .i64 (-1)] 41 (0, 0)) := by
  have h1 := blk_new (w.alloc (.cells #[.int .i64 1, .int .i64 1, .string ⟨#[]⟩] 65 (0, 0))) (.cells #[.slice (some ⟨w.heap.size, 0, none⟩) 1 1, .int .i64 2, .int .i64 1, .slice (some ⟨w.heap.size, 0, none⟩) 1 1, .int .i64 9, .int .i64 (-1)] 41 (0, 0)); rw [World.size_alloc] at h1; rw [← hW1]; exact blk_alloc (blk_alloc (h1) _) _
 have k5 : W1.heap[w.heap.size + 1 + 1]? = some (.cells #[.slice (some ⟨w.heap.size, 0, none⟩) 1 1, .int .i64 4, .int .i64 1, .slice (some ⟨w.heap.size, 0, none⟩) 1 1, .int .i64 6, .int .i64 (-1)] 41 (0, 0)) := by
  have h1 := blk_new ((w.alloc (.cells #[.int .i64 1, .int .i64 1, .string ⟨#[]⟩] 65 (0, 0))).alloc (.cells #[.slice (some ⟨w.heap.size, 0, none⟩) 1 1, .int .i64 2, .int .i64 1, .slice (some ⟨w.heap.size, 0, none⟩) 1 1, .int .i64 9, .int .i64 (-1)] 41 (0, 0))) (.cells #[.slice (some ⟨w.heap.size, 0, none⟩) 1 1, .int .i64 4, .int .i64 1, .slice (some ⟨w.heap.size, 0, none⟩) 1 1, .int .i64 6, .int .i64 (-1)] 41 (0, 0)); rw [World.size_alloc, World.size_alloc] at h1; rw [← hW1]; exact blk_alloc (h1) _
 have k6 : W1.heap[w.heap.size + 1 + 1 + 1]? = some (.cells #[.int .i64 3, .int .i64 0, .string ⟨#[]⟩, .int .i64 3, .int .i64 1, .string ⟨#[]⟩, .int .i64 13, .int .i64 0, .string ⟨#[]⟩] 68 (0, 0)) := by
  have h1 := blk_new (((w.alloc (.cells #[.int .i64 1, .int .i64 1, .string ⟨#[]⟩] 65 (0, 0))).alloc (.cells #[.slice (some ⟨w.heap.size, 0, none⟩) 1 1, .int .i64 2, .int .i64 1, .slice (some ⟨w.heap.size, 0, none⟩) 1 1, .int .i64 9, .int .i64 (-1)] 41 (0, 0))).alloc (.cells #[.slice (some ⟨w.heap.size, 0, none⟩) 1 1, .int .i64 4, .int .i64 1, .slice (some ⟨w.heap.size, 0, none⟩) 1 1, .int .i64 6, .int .i64 (-1)] 41 (0, 0))) (.cells #[.int .i64 3, .int .i64 0, .string ⟨#[]⟩, .int .i64 3, .int .i64 1, .string ⟨#[]⟩, .int .i64 13, .int .i64 0, .string ⟨#[]⟩] 68 (0, 0)); rw [World.size_alloc, World.size_alloc, World.size_alloc] at h1; rw [← hW1]; exact h1
 rw [hW1]; have r1' : Kd.C kV W1 (some ⟨w.heap.size, 0, none⟩) 1 [v1] := C_lit (d := kV) (ps := [] ++ [v1]) (inner := [] ++ [.int .i64 v1.f0, .int .i64 v1.f1, .string v1.f2]) rfl k0 rfl rfl zq34 (Reps.snoc (ps := []) (p := v1) (Reps.none (kV.K W1) kV.sz) (k65_mk W1 v1) rfl); have hC : Kd.C kE W1 (some ⟨w.heap.size + 1, 0, none⟩) 2 [e1, a2] :=
  C_lit (d := kE) (ps := [] ++ [e1] ++ [a2]) (inner := [] ++ [.slice (some ⟨w.heap.size, 0, none⟩) 1 1, .int .i64 2, .int .i64 1] ++ [.slice (some ⟨w.heap.size, 0, none⟩) 1 1, .int .i64 9, .int .i64 (-1)]) rfl k2 rfl rfl zq34
   (((Reps.none (kE.K W1) kE.sz).snoc (p := e1) (k41_mk W1 e1 (Nat.le_refl 1) r1') rfl).snoc (p := a2) (k41_mk W1 a2 (Nat.le_refl 1) r1') rfl)
 have hD : Kd.C kE W1 (some ⟨w.heap.size + 1 + 1, 0, none⟩) 2 [r1, r2] :=
  C_lit (d := kE) (ps := [] ++ [r1] ++ [r2]) (inner := [] ++ [.slice (some ⟨w.heap.size, 0, none⟩) 1 1, .int .i64 4, .int .i64 1] ++ [.slice (some ⟨w.heap.size, 0, none⟩) 1 1, .int .i64 6, .int .i64 (-1)]) rfl k5 rfl rfl zq34
   (((Reps.none (kE.K W1) kE.sz).snoc (p := r1) (k41_mk W1 r1 (Nat.le_refl 1) r1') rfl).snoc (p := r2) (k41_mk W1 r2 (Nat.le_refl 1) r1') rfl)
 have hX : Kd.C kO W1 (some ⟨w.heap.size + 1 + 1 + 1, 0, none⟩) 3 jx2 :=
  C_lit (d := kO) (ps := [] ++ [(⟨3, 0, ⟨#[]⟩⟩ : Op8)] ++ [⟨3, 1, ⟨#[]⟩⟩] ++ [⟨13, 0, ⟨#[]⟩⟩]) (inner := [] ++ [.int .i64 3, .int .i64 0, .string ⟨#[]⟩] ++ [.int .i64 3, .int .i64 1, .string ⟨#[]⟩] ++ [.int .i64 13, .int .i64 0, .string ⟨#[]⟩]) rfl k6 rfl rfl zq34
   ((((Reps.none (kO.K W1) kO.sz).snoc (p := ⟨3, 0, ⟨#[]⟩⟩) (k68_mk W1 _) rfl).snoc (p := ⟨3, 1, ⟨#[]⟩⟩) (k68_mk W1 _) rfl).snoc (p := ⟨13, 0, ⟨#[]⟩⟩) (k68_mk W1 _) rfl)
 have HV1 := Lib.hid k0; have HD := Lib.hid hD; have HXX := Lib.hid hX; have HB1 := Lib.hid hbW1; have HLT := Lib.hid (show w.heap.size < W1.heap.size by omega); have FC := Lib.hid (alone_any (some ⟨w.heap.size + 1, 0, none⟩) (some ⟨w.heap.size + 1 + 1, 0, none⟩) (some ⟨w.heap.size + 1 + 1 + 1, 0, none⟩) 2 2 3 [e1, a2] [r1, r2] jx2 W1 hC hD hX (Nat.le_refl 3) (by rfl) (by rfl) (by rfl)); rw [factA1] at FC; clear hC hD hX r1' k0 k2 k5 k6 hW1 hsW1 hbW1; refine FC.out.mono ?_; rintro e w2 ⟨Aa, ca, rfl, hRa, hca, hb2⟩; have HRA := Lib.hid hRa; have HB2 := Lib.hid (HB1.out.trans (hb2.mono HB1.out.size)); have HV2 := Lib.hid ((hb2.block w.heap.size HLT.out).trans HV1.out); have HLT2 := Lib.hid (Nat.lt_of_lt_of_le HLT.out hb2.size); have HD2 := Lib.hid (Kd.C_below HD.out hb2); have HX2 := Lib.hid (Kd.C_below HXX.out hb2); clear hRa hb2 hca HB1 HV1 HD HXX FC
 go_wp2_with (go_at_call 41; refine hold_intro ?_)
 refine ⟨?_⟩; obtain ⟨W3, hW3⟩ : ∃ W3, w2.alloc (.cells #[.int .i64 0, .int .i64 1] 85 (0, 0)) = W3 := ⟨_, rfl⟩
 have hsW3 : W3.heap.size = w2.heap.size + 1 := by rw [← hW3]; simp
 have hbW3 : Below w2.heap.size w2 W3 := by rw [← hW3]; exact below_alloc (Below.refl _ w2) _
 have k0 : W3.heap[w2.heap.size]? = some (.cells #[.int .i64 0, .int .i64 1] 85 (0, 0)) := by
  have h1 := blk_new (w2) (.cells #[.int .i64 0, .int .i64 1] 85 (0, 0)); rw [← hW3]; exact h1
 rw [hW3]; have hRV : Kd.R kV tV W3 0 (fun _ => True) (.slice (some ⟨w.heap.size, 0, none⟩) [v1].length 1) [v1] := R_lit0 (d := kV) (inner := [] ++ [.int .i64 v1.f0, .int .i64 v1.f1, .string v1.f2]) ((hbW3.block w.heap.size HLT2.out).trans HV2.out) rfl zq34 ((Reps.none _ kV.sz).snoc (p := v1) (k65_mkM _ _ _ v1) rfl); have hRJ : Kd.R kJ tJ W3 0 (fun _ => True) (.slice (some ⟨w2.heap.size, 0, none⟩) [(⟨0, 1⟩ : Jp)].length 1) [⟨0, 1⟩] := R_lit0 (d := kJ) (inner := [] ++ [.int .i64 0, .int .i64 1]) k0 rfl zq34 ((Reps.none _ kJ.sz).snoc (p := (⟨0, 1⟩ : Jp)) (k85_mkM _ _ _ (⟨0, 1⟩ : Jp)) rfl); have HB3 := Lib.hid hbW3; have PC := Lib.hid (PartnersOk_calls (holdsV jx2) ([v1], [⟨0, 1⟩]) (some ⟨w.heap.size, 0, none⟩) (some ⟨w2.heap.size, 0, none⟩) (some ⟨w.heap.size + 1 + 1, 0, none⟩) (some ⟨w.heap.size + 1 + 1 + 1, 0, none⟩) 1 1 2 3 [r1, r2] jx2 W3 hRV hRJ (Kd.C_below HD2.out hbW3) zq34 (may2 [v1] 4 1 6 (-1) (rowMay1 1) rfl) (table2 [v1] 4 1 6 (-1) (rowMay1 1) rfl) (rowMay1 1) rfl (Kd.C_below HX2.out hbW3) (Nat.le_refl 3) (fun y hy hj => holds_ok (l := [e1]) (r := [r1, r2]) (by rfl) (by rfl) (by rfl) ([v1], [⟨0, 1⟩]) y ⟨e1, by simp, rfl⟩ (runs_mem _ y hy).1 hj) (by have := (EvP.form_E jx2).get; rw [jx2_form] at this; exact this)); rw [factA2] at PC; clear hRV hRJ k0 hW3 hsW3 hbW3 HD2 HX2 HV2; refine PC.out.mono ?_; rintro e w4 ⟨vp, rfl, hRp, hb4⟩; obtain ⟨Ab, cb, rfl⟩ := Kd.R_slice hRp; have HB4 := Lib.hid ((HB2.out.trans (HB3.out.mono HB2.out.size)).trans (hb4.mono (Nat.le_trans HB2.out.size HB3.out.size))); have hra := Kd.C_below (Kd.C_below HRA.out HB3.out) hb4; obtain ⟨ad, Ay, cy, ea, y0, y1, y2, y3, y4⟩ := at_T41 hra (1 : Int) zq34 zq34; obtain ⟨ad2, Az, cz, eb, z0, z1, z2, z3, z4⟩ := at_T41 hra (2 : Int) zq34 zq34; cases ea; cases eb; have Y1 : w4.cell? ⟨ad.block, ad.off + 3 + 1, none⟩ = some (.int .i64 4) := by simpa [Addr.add, rd_T41] using y1
 have Y2 : w4.cell? ⟨ad.block, ad.off + 3 + 2, none⟩ = some (.int .i64 (-1)) := by simpa [Addr.add, rd_T41] using y2
 have Z1 : w4.cell? ⟨ad.block, ad.off + 6 + 1, none⟩ = some (.int .i64 6) := by simpa [Addr.add, rd_T41] using z1
 clear y0 y1 y2 y3 y4 z0 z1 z2 z3 z4 hra HRA HB2 HB3 hb4 hRp PC; go_wp2; go_ret; exact ⟨rfl, HB4.out⟩
end Go.Proofs.YtmkgecapkeojaaaGreat.Eg
end
section
namespace Go.Proofs.YtmkgecapkeojaaaGreat.Eg
open Go.Proofs.YtmkgecapkeojaaaGreat Go.Proofs.YtmkgecapkeojaaaGreat.PDa
open Go.RowKit Go.Proofs.YtmkgecapkeojaaaGreatW.PrintWords Go.Proofs.YtmkgecapkeojaaaGreatW.PrintLast Go.Proofs.YtmkgecapkeojaaaGreatW.PrintMore
open Go.Proofs.YtmkgecapkeojaaaGreat.SortM Go.Proofs.YtmkgecapkeojaaaGreat.Run Go.Proofs.YtmkgecapkeojaaaGreat.Stp Go.Proofs.YtmkgecapkeojaaaGreat.Rw
def cutJ (t : Int) : List Jp → List Jp
 | [] => []
 | x :: xs => if x.f0 ≥ t then [] else x :: cutJ t xs
def sumJ : List Jp → Int
 | [] => 0
 | x :: xs => x.f1 + sumJ xs
theorem sumJ_snoc (x : Jp) : ∀ l : List Jp, sumJ (l ++ [x]) = sumJ l + x.f1
 | [] => by simp [sumJ]
 | y :: ys => by rw [List.cons_append, sumJ, sumJ, sumJ_snoc x ys]; omega
def endJ (t s : Int) : List Jp := if s ≠ 0 then [⟨t, -s⟩] else []
def aheadV (t : Int) (f : List Jp) : List Jp × Int := if mayJ f = true then (if t ≥ 1125899906842624 then (f, 0) else toldJ (cutJ t f ++ endJ t (sumJ (cutJ t f)))) else ([], 2)
theorem Ahead_calls (A0 : Option Addr) (c0 : Nat) (f : List Jp) (t : Int) (w : World) (hr0 : Kd.C kJ w A0 f.length f) (hc0 : f.length ≤ c0) :
  Calls Tryz.prog 76 #[.slice A0 f.length c0, .int .i64 t] w fun e w' => ∃ v, e = .returned (.tuple #[v, .int .i64 (aheadV t f).2]) ∧ Kd.R kJ tJ w' w.heap.size (fun _ => True) v (aheadV t f).1 ∧ Below w.heap.size w w' := by
 have hu43 := Tryz.underlying43; have MF := Lib.hid (may_any A0 c0 f w hr0 hc0); have HR0 := Lib.hid hr0; have HC0 := Lib.hid hc0; clear hr0 hc0; cases hmf : mayJ f with
 | false =>
  rw [hmf] at MF; have HV := Lib.hid (show aheadV t f = ([], 2) by unfold aheadV; rw [hmf]; rfl); clear hmf; go_enter Tryz.func76, Tryz.ntmps76
  go_wp2_with fail
  refine MF.out.mono ?_; rintro e w1 ⟨rfl, hb⟩; go_wp2; go_ret2; exact ⟨.slice none 0 0, by rw [HV.out]; rfl, by rw [HV.out]; exact Kd.R_nil _ _ _ _ _, hb⟩
 | true =>
 rw [hmf] at MF; obtain ⟨lf, pf, _⟩ := mayJ_parts hmf; have IF := Lib.hid (show In50 f from fun j hj => ⟨(pf j hj).2.1, okFair (pf j hj).2.2.2⟩); obtain ⟨o, ho⟩ : ∃ o, aheadV t f = o := ⟨_, rfl⟩
 rw [ho]; unfold aheadV at ho; rw [if_pos hmf] at ho
 by_cases ht : t ≥ 1125899906842624
 ·have q : decide (t ≥ 1125899906842624) = true := decide_eq_true ht
  rw [if_pos ht] at ho; have HO := Lib.hid ho; have LF := Lib.hid lf; clear ho hmf ht pf lf; go_enter Tryz.func76, Tryz.ntmps76
  go_wp2_with fail
  refine MF.out.mono ?_; rintro e w1 ⟨rfl, hb⟩; have HB := Lib.hid hb; have CL := Lib.hid (clone_Jump.calls A0 c0 f f w1 (Kd.C_below HR0.out hb) HC0.out (if_pos (by have := LF.out; omega))); clear hb
  go_wp2_with fail
  refine CL.out.mono ?_; rintro e w2 ⟨v, rfl, hR, hb⟩; have HR2 := Lib.hid (Kd.R_lower hR HB.out.size); have HB2 := Lib.hid (HB.out.trans (hb.mono HB.out.size)); clear hR hb; go_wp2; go_ret2; exact ⟨v, by rw [← HO.out]; rfl, by rw [← HO.out]; exact HR2.out, HB2.out⟩
 ·have q : decide (t ≥ 1125899906842624) = false := decide_eq_false ht
  rw [if_neg ht] at ho; obtain ⟨c, hc⟩ : ∃ c, cutJ t f = c := ⟨_, rfl⟩
  rw [hc] at ho; have HO := Lib.hid ho; have HCC := Lib.hid hc; obtain ⟨n, hn⟩ : ∃ n, f.length = n := ⟨_, rfl⟩
  rw [hn] at HR0 HC0 lf MF ⊢; have HN := Lib.hid hn; have LF := Lib.hid lf; clear ho hc hmf ht pf hn; go_enter Tryz.func76, Tryz.ntmps76
  go_wp2_with fail
  refine MF.out.mono ?_; rintro e w1 ⟨rfl, hb⟩; have HB2 := Lib.hid hb; clear hb MF
  go_wp2_with (first | ((with_reducible refine gate_dst (N := 17) rfl ?_); refine Kd.R_lit kJ _ 85 ?hg (N := 17) ?hd (xs := ([] : List Jp)) (inner := []) (ok := fun _ => True) (okp := fun _ => True) ?hr ?hp (fun _ hk => hk) trivial (Below.refl _ _) (Nat.le_refl _) zq30 ?_; (case hd => rfl); (case hg => rfl); (case hr => first | (go_simp; done) | (go_simp; rfl)); (case hp => exact (Reps.none _ _)); intro v22 w3 ho3 hb3 hg_ hnew_; have HO3 := Lib.hid (Kd.R_lower ho3 HB2.out.size); have HB3 := Lib.hid (HB2.out.trans (hb3.mono HB2.out.size)); clear hg_ hnew_ hb3 ho3))
  go_loopw [6, 7, 20] (fun u6 u7 u20 wr => ∃ (i : Nat) (s : Int), i ≤ n ∧ u20 = .int .i64 (i : Int) ∧ u7 = .int .i64 s ∧ (-(1048576 * (i : Int)) ≤ s ∧ s ≤ 1048576 * (i : Int)) ∧ Aside0 (sumJ (f.take i) = s) ∧ Aside0 (Kd.R kJ tJ wr w.heap.size (fun _ => True) u6 (f.take i)) ∧ Aside0 (Below w.heap.size w wr) ∧ Aside0 (f.take i ++ cutJ t (f.drop i) = c)) (fun u6 u7 u20 wr => n - (intOf u20).toNat)
  case atStart => exact ⟨0, 0, Nat.zero_le _, rfl, rfl, by omega, ⟨rfl⟩, ⟨HO3.out⟩, ⟨HB3.out⟩, ⟨HCC.out⟩⟩
  case round =>
   obtain ⟨i, s, hi, rfl, rfl, hs, HS, HR, HB, HE⟩ := hrel
   by_cases ci : i < n
   case neg =>
    obtain rfl : i = n := by omega
    have HCT := Lib.hid (show f.take i = c by have h := HE.out; rw [List.drop_eq_nil_of_le (by have := HN.out; omega), cutJ, List.append_nil] at h; exact h); have HRC := Lib.hid (show Kd.R kJ tJ wr w.heap.size (fun _ => True) u6 c by rw [← HCT.out]; exact HR.out); have HLC := Lib.hid (show c.length ≤ 1024 by rw [← HCT.out, List.length_take]; have := LF.out; omega); have HSC := Lib.hid (show sumJ c = s by rw [← HCT.out]; exact HS.out)
    by_cases hs0 : s = 0
    ·have qs : (s != 0) = false := by simpa using hs0
     have HV := Lib.hid (show toldJ c = o by have h := HO.out; rw [HSC.out] at h; unfold endJ at h; rw [if_neg (fun h2 => h2 hs0), List.append_nil] at h; exact h); have TC := Lib.hid (step_told.calls (c.length + 1) (fun _ => True) _ c _ _ w wr HB.out HRC.out (told_f c)); rw [HV.out] at TC; clear hs0
     go_wp2_with (go_at_call 115; (with_reducible refine TC.out.mono ?_); rintro e w5 ⟨v5, rfl, hR, hb5, _⟩; have HR5 := Lib.hid hR; have HB5 := Lib.hid hb5; clear hR hb5)
     go_ret2; exact ⟨v5, rfl, Kd.R_mono HR5.out (fun _ _ => trivial), HB5.out⟩
    ·have qs : (s != 0) = true := by simpa using hs0
     have HV := Lib.hid (show toldJ (c ++ [⟨t, -s⟩]) = o by have h := HO.out; rw [HSC.out] at h; unfold endJ at h; rw [if_pos hs0] at h; exact h); have ng : IntKind.i64.wrap (-s) = -s := by rw [IntKind.wrap_i64]; omega
     clear hs0
     go_wp2_with (at_builtin; (refine Kd.R_append kJ (w0 := w) w.heap.size rfl _ _ 43 85 (.agg #[(.int .i64 0), (.int .i64 0)]) 16 rfl hu43 info85 rfl zq34 zq4 u6 c ⟨t, -s⟩ [.int .i64 t, .int .i64 (-s)] (fun _ => True) (fun _ => False) rfl (by first | rfl | (rw [World.size_alloc]; rfl)) ?aP (fun _ h => h.elim) (fun _ _ => trivial) ?aO ?aB ?aS ?aL ?_))
     case aP => exact k85_mkM _ _ _ ⟨t, -s⟩
     case aO => exact HRC.out
     case aB => exact HB.out
     case aS => exact HB.out.size
     case aL => have := HLC.out; omega
     intro v1 w7 ho hb hg hat; have TC := Lib.hid (step_told.calls ((c ++ [(⟨t, -s⟩ : Jp)]).length + 1) (fun _ => True) _ (c ++ [(⟨t, -s⟩ : Jp)]) _ _ w w7 hb ho (told_f (c ++ [(⟨t, -s⟩ : Jp)]))); rw [HV.out] at TC; clear ho hb hg hat
     go_wp2_with (go_at_call 115; (with_reducible refine TC.out.mono ?_); rintro e w5 ⟨v5, rfl, hR, hb5, _⟩; have HR5 := Lib.hid hR; have HB5 := Lib.hid hb5; clear hR hb5)
     go_ret2; exact ⟨v5, rfl, Kd.R_mono HR5.out (fun _ _ => trivial), HB5.out⟩
   case pos =>
    obtain ⟨x, hx⟩ : ∃ x, f[i]'(by have := HN.out; omega) = x := ⟨_, rfl⟩
    obtain ⟨ad, e1, x0, x1⟩ := at_T85 (Kd.C_below HR0.out HB.out) (i : Int) zq4 zq4; rw [rdJt f i (by have := HN.out; omega), Int.toNat_natCast, hx] at x0 x1; cases e1; have qi : (i : Int) < (n : Int) := by omega
    have hfd : f.drop i = x :: f.drop (i + 1) := by rw [← hx]; exact List.drop_eq_getElem_cons _
    have hft : f.take (i + 1) = f.take i ++ [x] := by rw [← hx]; exact (List.take_append_getElem (by have := HN.out; omega)).symm
    have hxm : x ∈ f := by rw [← hx]; exact List.getElem_mem _
    have hxb := (IF.out x hxm).2; have hn := LF.out
    by_cases cx : x.f0 ≥ t
    ·have qx : decide (x.f0 ≥ t) = true := decide_eq_true cx
     have HCT := Lib.hid (show f.take i = c by have h := HE.out; rw [hfd, cutJ, if_pos cx, List.append_nil] at h; exact h); obtain ⟨wq, hwq⟩ : ∃ wq, wr.alloc (.cells #[.int .i64 x.f0, .int .i64 x.f1] 85 (0, 0)) = wq := ⟨_, rfl⟩
     have HWQ := Lib.hid hwq; have HBQ := Lib.hid (show Below w.heap.size w wq by rw [← hwq]; exact below_alloc HB.out _); have HRC := Lib.hid (show Kd.R kJ tJ wq w.heap.size (fun _ => True) u6 c by rw [← hwq, ← HCT.out]; exact Kd.R_below HR.out (below_alloc (Below.refl _ _) _)); have HLC := Lib.hid (show c.length ≤ 1024 by rw [← HCT.out, List.length_take]; have := LF.out; omega); clear hwq hx hfd hft hxm cx HR HB HE
     go_upto_if 38 with fail
     rw [HWQ.out]; have HSC := Lib.hid (show sumJ c = s by rw [← HCT.out]; exact HS.out)
     by_cases hs0 : s = 0
     ·have qs : (s != 0) = false := by simpa using hs0
      have HV := Lib.hid (show toldJ c = o by have h := HO.out; rw [HSC.out] at h; unfold endJ at h; rw [if_neg (fun h2 => h2 hs0), List.append_nil] at h; exact h); have TC := Lib.hid (step_told.calls (c.length + 1) (fun _ => True) _ c _ _ w wq HBQ.out HRC.out (told_f c)); rw [HV.out] at TC; clear hs0
      go_wp2_with (go_at_call 115; (with_reducible refine TC.out.mono ?_); rintro e w5 ⟨v5, rfl, hR, hb5, _⟩; have HR5 := Lib.hid hR; have HB5 := Lib.hid hb5; clear hR hb5)
      go_ret2; exact ⟨v5, rfl, Kd.R_mono HR5.out (fun _ _ => trivial), HB5.out⟩
     ·have qs : (s != 0) = true := by simpa using hs0
      have HV := Lib.hid (show toldJ (c ++ [⟨t, -s⟩]) = o by have h := HO.out; rw [HSC.out] at h; unfold endJ at h; rw [if_pos hs0] at h; exact h); have ng : IntKind.i64.wrap (-s) = -s := by rw [IntKind.wrap_i64]; omega
      clear hs0
      go_wp2_with (at_builtin; (refine Kd.R_append kJ (w0 := w) w.heap.size rfl _ _ 43 85 (.agg #[(.int .i64 0), (.int .i64 0)]) 16 rfl hu43 info85 rfl zq34 zq4 u6 c ⟨t, -s⟩ [.int .i64 t, .int .i64 (-s)] (fun _ => True) (fun _ => False) rfl (by first | rfl | (rw [World.size_alloc]; rfl)) ?aP (fun _ h => h.elim) (fun _ _ => trivial) ?aO ?aB ?aS ?aL ?_))
      case aP => exact k85_mkM _ _ _ ⟨t, -s⟩
      case aO => exact HRC.out
      case aB => exact HBQ.out
      case aS => exact HBQ.out.size
      case aL => have := HLC.out; omega
      intro v1 w7 ho hb hg hat; have TC := Lib.hid (step_told.calls ((c ++ [(⟨t, -s⟩ : Jp)]).length + 1) (fun _ => True) _ (c ++ [(⟨t, -s⟩ : Jp)]) _ _ w w7 hb ho (told_f (c ++ [(⟨t, -s⟩ : Jp)]))); rw [HV.out] at TC; clear ho hb hg hat
      go_wp2_with (go_at_call 115; (with_reducible refine TC.out.mono ?_); rintro e w5 ⟨v5, rfl, hR, hb5, _⟩; have HR5 := Lib.hid hR; have HB5 := Lib.hid hb5; clear hR hb5)
      go_ret2; exact ⟨v5, rfl, Kd.R_mono HR5.out (fun _ _ => trivial), HB5.out⟩
    ·have qx : decide (x.f0 ≥ t) = false := decide_eq_false cx
     have HE2 := Lib.hid (show f.take (i + 1) ++ cutJ t (f.drop (i + 1)) = c by have h := HE.out; rw [hfd, cutJ, if_neg cx] at h; rw [hft, List.append_assoc]; exact h); have HS2 := Lib.hid (show sumJ (f.take (i + 1)) = s + x.f1 by rw [hft, sumJ_snoc, HS.out]); have HFT := Lib.hid hft; have HLT := Lib.hid (show (f.take i).length ≤ 1024 by rw [List.length_take]; omega); clear hx hfd hft hxm cx HE HS
     go_wp2_with (at_builtin; (refine Kd.R_append kJ (w0 := w) w.heap.size rfl _ _ 43 85 (.agg #[(.int .i64 0), (.int .i64 0)]) 16 rfl hu43 info85 rfl zq34 zq4 u6 (f.take i) x [.int .i64 x.f0, .int .i64 x.f1] (fun _ => True) (fun _ => False) rfl (by first | rfl | (rw [World.size_alloc]; rfl)) ?aP (fun _ h => h.elim) (fun _ _ => trivial) ?aO ?aB ?aS ?aL ?_))
     case aP => exact k85_mkM _ _ _ x
     case aO => exact Kd.R_below HR.out (below_alloc (Below.refl _ _) _)
     case aB => exact below_alloc HB.out _
     case aS => exact (below_alloc HB.out _).size
     case aL => have := HLT.out; omega
     intro v1 w7 ho hb hg hat; have z1 : w7.cell? ⟨wr.heap.size, 1, none⟩ = some (.int .i64 x.f1) := (World.cell?_of_block (w := wr.alloc (.cells #[.int .i64 x.f0, .int .i64 x.f1] 85 (0, 0))) (a := ⟨wr.heap.size, 1, none⟩) (hg.block wr.heap.size (by rw [World.size_alloc]; omega) (fun e => by have := (own_ltR HR.out e.symm).2; omega))).trans ((blk_cell (blk_new wr _) 1).trans rfl); have HO6 := Lib.hid (show Kd.R kJ tJ w7 w.heap.size (fun _ => True) v1 (f.take (i + 1)) by rw [HFT.out]; exact ho); have HB6 := Lib.hid hb; have qa : s + x.f1 ≤ 9223372036854775807 := by omega
     have qb : -9223372036854775808 ≤ s + x.f1 := by omega
     have HBD := Lib.hid (show -(1048576 * ((i + 1 : Nat) : Int)) ≤ s + x.f1 ∧ s + x.f1 ≤ 1048576 * ((i + 1 : Nat) : Int) from ⟨by omega, by omega⟩); clear ho hb hg hat x0 x1 hxb hs
     go_wp2_with fail
     go_roundw
     case rel => exact ⟨i + 1, s + x.f1, by omega, by go_num, rfl, HBD.out, ⟨HS2.out⟩, ⟨HO6.out⟩, ⟨HB6.out⟩, ⟨HE2.out⟩⟩
     case measure => simp [intOf]; omega
theorem aheadV_len (t : Int) (f : List Jp) : (aheadV t f).1.length ≤ 1000000000 := by
 unfold aheadV
 split
 ·rename_i h
  have := (mayJ_parts h).1
  split
  ·show f.length ≤ _; omega
  ·unfold toldJ
   split
   ·rename_i h2
    have := (mayJ_parts h2).1
    show (cutJ t f ++ endJ t (sumJ (cutJ t f))).length ≤ _; omega
   ·exact Nat.zero_le _
 ·exact Nat.zero_le _
def allP (g : List Jp → List Jp × Int) (l : List EdP) : List EdP × Int := if mayE l = true then mapP g l else ([], 2)
theorem ahead1_calls (A : Option Addr) (c b : Nat) (f : List Jp) (t : Int) (w : World) (hR : Kd.R kJ tJ w 0 (fun _ => True) (.slice A f.length c) f) (hb : w.cell? ⟨b, 0, none⟩ = some (.int .i64 t)) :
  Calls Tryz.prog 75 #[.slice A f.length c, .pointer (some ⟨b, 0, none⟩)] w fun e w' => ∃ v, e = .returned (.tuple #[v, .int .i64 (aheadV t f).2]) ∧ Kd.R kJ tJ w' 0 (fun _ => True) v (aheadV t f).1 ∧ Below w.heap.size w w' := by
 have AC := Lib.hid (Ahead_calls A c f t w (Kd.R_reads' hR).2.2 (Kd.R_reads' hR).2.1); clear hR; obtain ⟨n, hn⟩ : ∃ n, f.length = n := ⟨_, rfl⟩
 rw [hn] at AC ⊢; obtain ⟨o, ho⟩ : ∃ o, aheadV t f = o := ⟨_, rfl⟩
 rw [ho] at AC ⊢; clear hn ho; go_enter Tryz.func75, Tryz.ntmps75
 go_wp2_with fail
 refine AC.out.mono ?_; rintro e w1 ⟨v, rfl, hR, hb⟩; have HR := Lib.hid (Kd.R_lower hR (Nat.zero_le _)); have HB := Lib.hid hb; clear hR hb; go_wp2; go_ret2; exact ⟨v, rfl, HR.out, HB.out⟩
theorem all_calls (g : List Jp → List Jp × Int) (fn : Nat) (cap : Array Value) (A0 : Option Addr) (c0 : Nat) (l : List EdP) (w : World) (hr0 : Kd.C k41 w A0 l.length l) (hrow : ∀ e ∈ l, e.f0.length ≤ 4398046511104)
  (hfn : ∀ args w, (callFunc fn args).run Tryz.prog w = .ok (.enter fn args) w) (hg : ∀ f, (g f).1.length ≤ 1000000000)
  (hby : ∀ (A : Option Addr) (c : Nat) (f : List Jp) (W1 : World), Below w.heap.size w W1 → Kd.R kJ 85 W1 0 (fun _ => True) (.slice A f.length c) f →
   Calls Tryz.prog fn (#[.slice A f.length c] ++ cap) W1 fun e w' => ∃ v, e = .returned (.tuple #[v, .int .i64 (g f).2]) ∧ Kd.R kJ 85 w' 0 (fun _ => True) v (g f).1 ∧ Below W1.heap.size W1 w') :
  Calls Tryz.prog 74 #[.slice A0 l.length c0, .func (.func fn) #[] cap] w fun e w' => ∃ v, e = .returned (.tuple #[v, .int .i64 (allP g l).2]) ∧ Kd.R kE tE w' w.heap.size (fun _ => True) v (allP g l).1 ∧ Below w.heap.size w w' := by
 have MC := Lib.hid (May_calls A0 c0 l w hr0 hrow); have MP := Lib.hid (fun (w1 : World) (h : Below w.heap.size w w1) (hl : l.length ≤ 68719476736) => mapped_calls g fn cap A0 c0 l w1 (Kd.C_below hr0 h) hl hrow hfn hg (fun A c f W1 hW _ hR => hby A c f W1 (h.trans (hW.mono h.size)) hR)); clear hr0 hrow hfn hg hby
 cases hm : mayE l with
 | false =>
  rw [hm] at MC; have HV := Lib.hid (show allP g l = ([], 2) by unfold allP; rw [hm]; rfl); clear hm MP; go_enter Tryz.func74, Tryz.ntmps74
  go_wp2_with fail
  refine MC.out.mono ?_; rintro e w1 ⟨rfl, hb⟩; go_wp2; go_ret2; exact ⟨.slice none 0 0, by rw [HV.out]; rfl, by rw [HV.out]; exact Kd.R_nil _ _ _ _ _, hb⟩
 | true =>
  rw [hm] at MC; have HV := Lib.hid (show allP g l = mapP g l by unfold allP; rw [hm]; rfl); have HL := Lib.hid (show l.length ≤ 4096 by unfold mayE eachP at hm; rw [Bool.and_eq_true] at hm; exact of_decide_eq_true hm.1); clear hm; go_enter Tryz.func74, Tryz.ntmps74
  go_wp2_with fail
  refine MC.out.mono ?_; rintro e w1 ⟨rfl, hb⟩; have HB := Lib.hid hb; have MP2 := Lib.hid (MP.out w1 hb (by have := HL.out; omega)); clear hb MP
  go_wp2_with fail
  refine MP2.out.mono ?_; rintro e w2 ⟨v, rfl, hR, hb⟩; have HR2 := Lib.hid (Kd.R_lower hR HB.out.size); have HB2 := Lib.hid (HB.out.trans (hb.mono HB.out.size)); clear hR hb; go_wp2; go_ret2; exact ⟨v, by rw [HV.out]; rfl, by rw [HV.out]; exact HR2.out, HB2.out⟩
theorem aheadE_calls (A0 : Option Addr) (c0 : Nat) (l : List EdP) (t : Int) (w : World) (hr0 : Kd.C k41 w A0 l.length l) (hrow : ∀ e ∈ l, e.f0.length ≤ 4398046511104) :
  Calls Tryz.prog 38 #[.slice A0 l.length c0, .int .i64 t] w fun e w' => ∃ v, e = .returned (.tuple #[v, .int .i64 (allP (aheadV t) l).2]) ∧ Kd.R kE tE w' w.heap.size (fun _ => True) v (allP (aheadV t) l).1 ∧ Below w.heap.size w w' := by
 have hmf : ∀ (fn : Fn) (first cap : Array Value) (w : World), (Instr.makeFunc fn first cap).run Tryz.prog w = .ok (.func fn first cap) w := fun _ _ _ _ => rfl
 obtain ⟨w1, hw1⟩ : ∃ w1, w.alloc (.cells #[.int .i64 t] 3 (0, 0)) = w1 := ⟨_, rfl⟩
 have HB1 := Lib.hid (show Below w.heap.size w w1 by rw [← hw1]; exact below_alloc (Below.refl _ _) _); have hcell : w1.cell? ⟨w.heap.size, 0, none⟩ = some (.int .i64 t) := by rw [← hw1]; exact (blk_cell (blk_new w _) 0).trans rfl
 have AC := Lib.hid (all_calls (aheadV t) 75 #[.pointer (some ⟨w.heap.size, 0, none⟩)] A0 c0 l w1 (Kd.C_below hr0 (by rw [← hw1]; exact below_alloc (Below.refl _ _) _)) hrow (enters_of Tryz.func75 zq17 rfl) (aheadV_len t) (fun A c f W1 hW hR => ahead1_calls A c w.heap.size f t W1 hR (pw_cell_below hW hcell))); have HW := Lib.hid hw1; clear hr0 hrow hcell hw1; obtain ⟨o, ho⟩ : ∃ o, allP (aheadV t) l = o := ⟨_, rfl⟩
 rw [ho] at AC ⊢; clear ho; go_enter Tryz.func38, Tryz.ntmps38
 go_wp2_with fail
 rw [HW.out]; refine AC.out.mono ?_; rintro e w2 ⟨v, rfl, hR, hb⟩; have HR := Lib.hid (Kd.R_lower hR HB1.out.size); have HB := Lib.hid (HB1.out.trans (hb.mono HB1.out.size)); clear hR hb; go_wp2; go_ret2; exact ⟨v, rfl, HR.out, HB.out⟩
end Go.Proofs.YtmkgecapkeojaaaGreat.Eg
end
section
namespace Go.Proofs.YtmkgecapkeojaaaGreat.Eg
open Go.Proofs.YtmkgecapkeojaaaGreat Go.Proofs.YtmkgecapkeojaaaGreat.PDa
open Go.RowKit Go.Proofs.YtmkgecapkeojaaaGreatW.PrintWords Go.Proofs.YtmkgecapkeojaaaGreat.Stp Go.Proofs.YtmkgecapkeojaaaGreat.Rw Go.Proofs.YtmkgecapkeojaaaGreat.Cmp Go.Proofs.YtmkgecapkeojaaaGreat.Canon
def cc (t u : Int) : Int := if t ≥ 1125899906842624 ∨ u < t then 1 else 0
theorem cut_val (t : Int) : ∀ f : List Jp, Rise f → (∀ u, u < t → valI (cutJ t f) u = valI f u) ∧ ∀ u, t ≤ u → valI (cutJ t f) u = sumJ (cutJ t f)
 | [], _ => ⟨fun _ _ => rfl, fun _ _ => rfl⟩
 | x :: xs, h => by
  have h1 := List.pairwise_cons.1 h; obtain ⟨i1, i2⟩ := cut_val t xs h1.2; rw [cutJ]
  by_cases c : x.f0 ≥ t
  ·rw [if_pos c]
   refine ⟨fun u hu => ?_, fun _ _ => rfl⟩; rw [valI_low (f := x :: xs) (fun j hj => ?_)]
   ·rfl
   ·rcases List.mem_cons.1 hj with rfl | hj
    ·omega
    ·have := h1.1 j hj; omega
  ·rw [if_neg c]
   refine ⟨fun u hu => by rw [valI, valI, i1 u hu], fun u hu => ?_⟩; rw [valI, sumJ, i2 u hu, if_pos (by omega)]
theorem ahead_val {t : Int} {f h : List Jp} (hh : aheadV t f = (h, 0)) : mayJ f = true ∧ mayJ h = true ∧ ∀ u, valI h u = cc t u * valI f u := by
 unfold aheadV at hh
 by_cases hm : mayJ f = true
 ·rw [if_pos hm] at hh
  by_cases ht : t ≥ 1125899906842624
  ·rw [if_pos ht] at hh
   obtain rfl : f = h := congrArg Prod.fst hh; exact ⟨hm, hm, fun u => by unfold cc; rw [if_pos (.inl ht), Int.one_mul]⟩
  ·rw [if_neg ht] at hh
   unfold toldJ at hh
   by_cases h2 : mayJ (cutJ t f ++ endJ t (sumJ (cutJ t f))) = true
   ·rw [if_pos h2] at hh
    obtain rfl : cutJ t f ++ endJ t (sumJ (cutJ t f)) = h := congrArg Prod.fst hh; refine ⟨hm, h2, fun u => ?_⟩; obtain ⟨c1, c2⟩ := cut_val t f (mayJ_parts hm).2.2; have e : valI (endJ t (sumJ (cutJ t f))) u = if t ≤ u then -(sumJ (cutJ t f)) else 0 := by
     unfold endJ
     split
     ·simp [valI]
     ·rename_i c
      have : sumJ (cutJ t f) = 0 := by simpa using c
      rw [this]; simp [valI]
    rw [valI_append, e]
    by_cases c : u < t
    ·have k1 : cc t u = 1 := by unfold cc; exact if_pos (.inr c)
     rw [k1, c1 u c, if_neg (show ¬ t ≤ u by omega)]; omega
    ·have k0 : cc t u = 0 := by unfold cc; exact if_neg (by omega)
     rw [k0, c2 u (by omega), if_pos (show t ≤ u by omega)]; omega
   ·rw [if_neg h2] at hh; cases hh
 ·rw [if_neg hm] at hh; cases hh
theorem mapR_ok (g : List Jp → List Jp × Int) : ∀ (gs : List Gr) (out : List EdP), (mapR g out gs).2 = 0 → (∀ x ∈ gs, (g x.2).2 = 0) ∧ (mapR g out gs).1 = out ++ flatG (gs.map fun x => (x.1, (g x.2).1)) ∧ (out.length ≤ 4096 → (mapR g out gs).1.length ≤ 4096)
 | [], out, _ => ⟨fun x hx => (by cases hx), by simp [mapR, flatG], fun h => h⟩
 | x :: xs, out, h => by
  rw [mapR] at h ⊢
  by_cases c : (g x.2).2 = 0
  ·rw [if_neg (by simpa using c)] at h ⊢
   by_cases c2 : 4096 < (putP out x.1 (g x.2).1).length
   ·rw [if_pos c2] at h; cases h
   ·rw [if_neg c2] at h ⊢
    obtain ⟨h1, h2, h3⟩ := mapR_ok g xs _ h; have hp : putP out x.1 (g x.2).1 = out ++ putP [] x.1 (g x.2).1 := by simp [putP]
    refine ⟨fun y hy => ?_, by rw [h2, List.map_cons, flatG_cons, hp, List.append_assoc], fun _ => h3 (by omega)⟩
    rcases List.mem_cons.1 hy with rfl | hy
    ·exact c
    ·exact h1 y hy
  ·rw [if_pos (by simpa using c)] at h
   exact absurd h c
theorem mapR_err (g : List Jp → List Jp × Int) : ∀ (gs : List Gr) (out : List EdP), (mapR g out gs).2 ≠ 0 → (mapR g out gs).1 = []
 | [], out, h => absurd rfl h
 | x :: xs, out, h => by
  rw [mapR] at h ⊢
  split
  ·rfl
  ·rename_i c
   rw [if_neg c] at h
   split
   ·rfl
   ·rename_i c2
    rw [if_neg c2] at h; exact mapR_err g xs _ h
theorem ahead_parts {t : Int} {l b : List EdP} (h : allP (aheadV t) l = (b, 0)) : MayP l ∧ IsC b ∧ (∀ φ u, Wt φ u b = cc t u * Wt φ u l) ∧ (∀ e ∈ b, ∃ e' ∈ l, e'.f0 = e.f0) ∧ b.length ≤ 4096 := by
 unfold allP at h
 by_cases c : mayE l = true
 ·rw [if_pos c] at h
  have hm := (mayE_iff l).1 c; unfold mapP at h; obtain ⟨h1, h2, h3⟩ := mapR_ok (aheadV t) (runsP l) [] (by rw [h]); rw [h, List.nil_append] at h2; rw [h] at h3; have h2 : b = flatG ((runsP l).map fun x => (x.1, (aheadV t x.2).1)) := h2; have hv := fun x (hx : x ∈ runsP l) => ahead_val (Prod.ext rfl (h1 x hx) : aheadV t x.2 = ((aheadV t x.2).1, 0))
  refine ⟨hm, ?_, fun φ u => ?_, fun e he => ?_, h3 (Nat.zero_le _)⟩
  ·rw [h2]
   refine flatG_is _ ?_ fun x hx => ?_
   ·rw [List.map_map]
    have := rowsOf_inc l; rw [runs_groups l (isC_rows hm.can)]; unfold groups; rw [List.map_map]; exact (List.map_id (rowsOf l)).symm ▸ rowsOf_inc l
   ·obtain ⟨y, hy, rfl⟩ := List.mem_map.1 hx
    exact mayJ_canon (hv y hy).2.1
  ·rw [h2, Wt_flatG, Sm_map, ← Wt_runs, ← Sm_mul]
   exact Sm_congr fun x hx => by
    show φ x.1 * valI (aheadV t x.2).1 u = cc t u * (φ x.1 * valI x.2 u)
    rw [(hv x hx).2.2 u, Int.mul_left_comm]
  ·rw [h2] at he
   obtain ⟨x, hx, e1, _⟩ := flatG_mem he; obtain ⟨y, hy, rfl⟩ := List.mem_map.1 hx; obtain ⟨⟨e', he', e2⟩, _⟩ := runs_mem l y hy; exact ⟨e', he', by rw [e1]; exact e2.symm⟩
 ·rw [if_neg c] at h; cases h
theorem allP_row (t : Int) (l : List EdP) : (∀ e ∈ (allP (aheadV t) l).1, ∃ e' ∈ l, e'.f0 = e.f0) ∧ (allP (aheadV t) l).1.length ≤ 4096 := by
 obtain ⟨⟨b, e⟩, h⟩ : ∃ z, allP (aheadV t) l = z := ⟨_, rfl⟩
 rw [h]
 by_cases c : e = 0
 ·subst c
  obtain ⟨_, _, _, h1, h2⟩ := ahead_parts h; exact ⟨h1, h2⟩
 ·suffices b = [] by subst this; exact ⟨fun e he => (by cases he), Nat.zero_le _⟩
  unfold allP at h
  split at h
  ·have := mapR_err (aheadV t) (runsP l) [] (by unfold mapP at h; rw [h]; exact c)
   unfold mapP at h; rw [h] at this; exact this
  ·exact (congrArg Prod.fst h).symm
theorem ahead_any (A0 : Option Addr) (c0 : Nat) (l : List EdP) (t : Int) (w : World) (hr0 : Kd.C kE w A0 l.length l) (hrow : ∀ e ∈ l, e.f0.length ≤ 4398046511104) :
  Calls Tryz.prog 38 #[.slice A0 l.length c0, .int .i64 t] w (Ans (allP (aheadV t) l) w) := by
 refine (aheadE_calls A0 c0 l t w hr0 hrow).mono ?_; rintro e w' ⟨v, rfl, hR, hb⟩; obtain ⟨A, c, rfl⟩ := Kd.R_slice hR; exact ⟨A, c, rfl, (Kd.R_reads' hR).2.2, (Kd.R_reads' hR).2.1, hb⟩
def Prt (hh : List Vl → Bool × Int) (p : List Vl) (u : Int) (y : Gr) : Prop := 0 < valI y.2 u ∧ (joinV p y.1).2 = 0 ∧ (hh (joinV p y.1).1).1 = true ∧ (hh (joinV p y.1).1).2 = 0
theorem partner_val {hh : List Vl → Bool × Int} {x y : Gr} {b : Bool} (h : partnerV hh x y = (b, 0)) (u : Int) (hx : valI x.2 u ≠ 0) (hy : 0 < valI y.2 u) : b = true ↔ Prt hh x.1 u y := by
 unfold partnerV at h; obtain ⟨⟨g, eg⟩, hg⟩ : ∃ z, bothV (· * ·) x.2 y.2 = z := ⟨_, rfl⟩
 rw [hg] at h; simp only at h
 by_cases e1 : eg = 0
 ·subst e1
  rw [if_neg (by simp)] at h; obtain ⟨_, _, _, hv⟩ := bothV_val (op := (· * ·)) rfl hg; have hv : valI g u = valI x.2 u * valI y.2 u := hv u; have hg0 : g ≠ [] := fun e => by
   rw [e] at hv; have : valI x.2 u * valI y.2 u ≠ 0 := Int.mul_ne_zero hx (by omega); exact this hv.symm
  rw [if_neg hg0] at h
  by_cases e3 : (joinV x.1 y.1).2 = 0
  ·rw [if_neg (by simpa using e3)] at h
   unfold Prt; rw [h]; exact ⟨fun hb => ⟨hy, e3, hb, rfl⟩, fun hb => hb.2.2.1⟩
  ·rw [if_pos (by simpa using e3)] at h
   exact absurd (congrArg Prod.snd h) e3
 ·rw [if_pos (by simpa using e1)] at h
  exact absurd (congrArg Prod.snd h) e1
theorem parts_val {hh : List Vl → Bool × Int} {x : Gr} (u : Int) (hx : valI x.2 u ≠ 0) : ∀ (its : List Gr) (sum p : List Jp), (∀ y ∈ its, 0 ≤ valI y.2 u) → partsR hh x sum its = (p, 0) →
  (valI sum u ≤ valI p u) ∧ ((∃ y ∈ its, Prt hh x.1 u y) → valI sum u < valI p u) ∧ ((¬ ∃ y ∈ its, Prt hh x.1 u y) → valI p u = valI sum u)
 | [], sum, p, _, h => by
  rw [partsR] at h; obtain rfl : sum = p := congrArg Prod.fst h; exact ⟨Int.le_refl _, fun ⟨y, hy, _⟩ => (by cases hy), fun _ => rfl⟩
 | y :: ys, sum, p, hn, h => by
  rw [partsR] at h
  by_cases c : (askV hh x sum y).2 = 0
  ·rw [if_neg (by simpa using c)] at h
   obtain ⟨i1, i2, i3⟩ := parts_val u hx ys _ p (fun z hz => hn z (List.mem_cons_of_mem _ hz)) h; have hy := hn y List.mem_cons_self; unfold askV at c i1 i2 i3
   by_cases c2 : (partnerV hh x y).2 = 0 ∧ (partnerV hh x y).1 = true
   ·rw [if_pos c2] at c i1 i2 i3
    obtain ⟨_, _, _, hv⟩ := bothV_val (op := (· + ·)) rfl (Prod.ext rfl c : bothV (· + ·) sum y.2 = ((bothV (· + ·) sum y.2).1, 0)); have hv : valI (bothV (· + ·) sum y.2).1 u = valI sum u + valI y.2 u := hv u; rw [hv] at i1 i2 i3
    by_cases y0 : 0 < valI y.2 u
    ·exact ⟨by omega, fun _ => by omega, fun hno => absurd ⟨y, List.mem_cons_self, (partner_val (Prod.ext c2.2 c2.1 : partnerV hh x y = (true, 0)) u hx y0).1 rfl⟩ hno⟩
    ·refine ⟨by omega, fun ⟨z, hz, hp⟩ => ?_, fun hno => ?_⟩
     ·rcases List.mem_cons.1 hz with rfl | hz
      ·exact absurd hp.1 y0
      ·have := i2 ⟨z, hz, hp⟩; omega
     ·have := i3 (fun ⟨z, hz, hp⟩ => hno ⟨z, List.mem_cons_of_mem _ hz, hp⟩); omega
   ·rw [if_neg c2] at c i1 i2 i3
    have c : (partnerV hh x y).2 = 0 := c; have i1 : valI sum u ≤ valI p u := i1; have i2 : (∃ z ∈ ys, Prt hh x.1 u z) → valI sum u < valI p u := i2; have i3 : (¬ ∃ z ∈ ys, Prt hh x.1 u z) → valI p u = valI sum u := i3; have hno : ¬ Prt hh x.1 u y := fun hp => c2 ⟨c, (partner_val (Prod.ext rfl c : partnerV hh x y = ((partnerV hh x y).1, 0)) u hx hp.1).2 hp⟩
    refine ⟨i1, fun ⟨z, hz, hp⟩ => ?_, fun h2 => i3 fun ⟨z, hz, hp⟩ => h2 ⟨z, List.mem_cons_of_mem _ hz, hp⟩⟩
    rcases List.mem_cons.1 hz with rfl | hz
    ·exact absurd hp hno
    ·exact i2 ⟨z, hz, hp⟩
  ·rw [if_pos (by simpa using c)] at h
   exact absurd (congrArg Prod.snd h) c
open Classical in
noncomputable def Kp (hh : List Vl → Bool × Int) (R : List Gr) (p : List Vl) (u : Int) : Int := if ∃ y ∈ R, Prt hh p u y then 0 else 1
theorem Kp_pos {hh : List Vl → Bool × Int} {R : List Gr} {p : List Vl} {u : Int} (h : ∃ y ∈ R, Prt hh p u y) : Kp hh R p u = 0 := if_pos h
theorem Kp_neg {hh : List Vl → Bool × Int} {R : List Gr} {p : List Vl} {u : Int} (h : ¬ ∃ y ∈ R, Prt hh p u y) : Kp hh R p u = 1 := if_neg h
theorem alR_ok (hh : List Vl → Bool × Int) (R : List Gr) (hR : ∀ y ∈ R, ∀ u, 0 ≤ valI y.2 u) : ∀ (its : List Gr) (out : List EdP), (∀ x ∈ its, rowMay x.1 = true) → (alR hh R out its).2 = 0 →
  ∃ gs : List Gr, (alR hh R out its).1 = out ++ flatG gs ∧ (∀ g ∈ gs, rowMay g.1 = true ∧ mayJ g.2 = true) ∧ ∀ (φ : List Vl → Int) (u : Int), Sm (fun x => φ x.1 * valI x.2 u) gs = Sm (fun x => φ x.1 * (Kp hh R x.1 u * valI x.2 u)) its
 | [], out, _, _ => ⟨[], by simp [alR, flatG], fun g hg => (by cases hg), fun _ _ => rfl⟩
 | x :: xs, out, hm, h => by
  rw [alR] at h ⊢
  by_cases c : (partsR hh x [] R).2 = 0
  ·rw [if_neg (by simpa using c)] at h ⊢
   by_cases c2 : (bothV whereO x.2 (partsR hh x [] R).1).2 = 0
   ·rw [if_neg (by simpa using c2)] at h ⊢
    obtain ⟨gs, h1, h2, h3⟩ := alR_ok hh R hR xs _ (fun y hy => hm y (List.mem_cons_of_mem _ hy)) h; obtain ⟨_, _, hj, hv⟩ := bothV_val (op := whereO) rfl (Prod.ext rfl c2 : bothV whereO x.2 (partsR hh x [] R).1 = ((bothV whereO x.2 (partsR hh x [] R).1).1, 0)); have hx := hm x List.mem_cons_self; have hb : buildP x.1 (bothV whereO x.2 (partsR hh x [] R).1).1 = putP [] x.1 (bothV whereO x.2 (partsR hh x [] R).1).1 := by unfold buildP; rw [hx, hj]; rfl
    refine ⟨(x.1, (bothV whereO x.2 (partsR hh x [] R).1).1) :: gs, by rw [h1, flatG_cons, hb, List.append_assoc], fun g hg => ?_, fun φ u => ?_⟩
    ·rcases List.mem_cons.1 hg with rfl | hg
     ·exact ⟨hx, hj⟩
     ·exact h2 g hg
    ·rw [Sm, Sm, h3 φ u]
     congr 2
     show valI (bothV whereO x.2 (partsR hh x [] R).1).1 u = _
     rw [hv u]; unfold whereO
     by_cases v0 : valI x.2 u = 0
     ·rw [v0]; split <;> simp
     ·obtain ⟨_, i2, i3⟩ := parts_val (hh := hh) u v0 R [] (partsR hh x [] R).1 (fun y hy => hR y hy u) (Prod.ext rfl c)
      by_cases c3 : ∃ y ∈ R, Prt hh x.1 u y
      ·have i4 := i2 c3
       have v1 : valI ([] : List Jp) u = 0 := rfl; rw [Kp_pos c3, if_pos (by omega)]; simp
      ·have i4 := i3 c3
       have v1 : valI ([] : List Jp) u = 0 := rfl; rw [Kp_neg c3, if_neg (by omega), Int.one_mul]
   ·rw [if_pos (by simpa using c2)] at h
    exact absurd h c2
  ·rw [if_pos (by simpa using c)] at h
   exact absurd h c
theorem runs_nn {r : List EdP} (h : MayP r) (hn : NN r) : ∀ y ∈ runsP r, ∀ u, 0 ≤ valI y.2 u := fun y hy u => by
 rw [runs_groups r (isC_rows h.can)] at hy; obtain ⟨q, _, rfl⟩ := List.mem_map.1 hy; exact hn q u
theorem runs_may {r : List EdP} (h : MayP r) : ∀ y ∈ runsP r, rowMay y.1 = true := fun y hy => by
 obtain ⟨⟨e, he, e1⟩, _⟩ := runs_mem r y hy; rw [e1]; exact (h.each e he).1
theorem flatG_ok {gs : List Gr} (h : ∀ g ∈ gs, rowMay g.1 = true ∧ mayJ g.2 = true) : okN (flatG gs) ∧ ∀ e ∈ flatG gs, e.f1 < 1125899906842624 := by
 have key : ∀ e ∈ flatG gs, rowMay e.f0 = true ∧ -2 < e.f1 ∧ e.f1 < 1125899906842624 ∧ fairB e.f2 = true := fun e he => by
  obtain ⟨x, hx, e1, e2⟩ := flatG_mem he; obtain ⟨h1, h2⟩ := h x hx; obtain ⟨p1, p2, _, p4⟩ := (mayJ_parts h2).2.1 _ e2; exact ⟨by rw [e1]; exact h1, p1, p2, p4⟩
 refine ⟨⟨fun e he => argE_ok (key e he).1 (key e he).2.2.2, fun e he => ?_⟩, fun e he => (key e he).2.2.1⟩; obtain ⟨_, h1, h2, _⟩ := key e he; unfold timeB; rw [decide_eq_false (by omega), decide_eq_false (by omega)]; rfl
theorem alone_val {hh : List Vl → Bool × Int} {ef : Int} {l r a : List EdP} (h : aloneV hh ef l r = (a, 0)) : MayP l ∧ MayP r ∧ MayP a ∧ ∀ (φ : List Vl → Int) (u : Int), Wt φ u a = Wt (fun p => φ p * Kp hh (runsP r) p u) u l := by
 unfold aloneV at h
 by_cases c : (mayE l && mayE r) = true
 ·rw [if_pos c] at h
  rw [Bool.and_eq_true, mayE_iff, mayE_iff] at c
  by_cases c1 : (tableE l && tableE r) = true
  ·rw [if_pos c1] at h
   rw [Bool.and_eq_true, table_iff, table_iff] at c1
   by_cases c2 : ef = 0
   ·rw [if_neg (by simpa using c2)] at h
    by_cases c3 : (alR hh (runsP r) [] (runsP l)).2 = 0
    ·rw [if_neg (by simpa using c3)] at h
     obtain ⟨gs, h1, h2, h3⟩ := alR_ok hh (runsP r) (runs_nn c.2 c1.2.2) (runsP l) [] (runs_may c.1) c3; rw [h1, List.nil_append] at h; obtain ⟨ok, late⟩ := flatG_ok h2; obtain ⟨_, hf, e⟩ := okN_of_norm (l := flatG gs) (by rw [h]); rw [h] at e; obtain rfl : a = flat (flatG gs) := congrArg Prod.fst e; refine ⟨c.1, c.2, flat_may ok hf, fun φ u => ?_⟩; rw [Wt_J (b := flatG gs) φ u (fun k => ?_), Wt_flatG, h3, ← Wt_runs]
     ·exact Sm_congr fun x _ => by rw [Int.mul_assoc]
     ·obtain ⟨q, s⟩ := k
      rw [flat_J]
      split
      ·rfl
      ·rename_i c4
       refine (J_none _ _ fun z hz e => c4 ?_).symm; obtain ⟨y, hy, rfl⟩ := List.mem_map.1 hz; have e2 : y.f1 = s := (Prod.mk.inj e).2; rw [← e2]; exact late y hy
    ·rw [if_pos (by simpa using c3)] at h
     exact absurd (congrArg Prod.snd h) c3
   ·rw [if_pos (by simpa using c2)] at h
    exact absurd (congrArg Prod.snd h) c2
  ·rw [if_neg c1] at h; cases h
 ·rw [if_neg c] at h; cases h
theorem prt_rows {hh : List Vl → Bool × Int} {r : List EdP} (h : MayP r) (p : List Vl) (u : Int) : (∃ y ∈ runsP r, Prt hh p u y) ↔ ∃ s, Prt hh p u (s, jumpsOf r s) := by
 rw [runs_groups r (isC_rows h.can)]
 constructor
 ·rintro ⟨y, hy, hp⟩
  obtain ⟨s, _, rfl⟩ := List.mem_map.1 hy; exact ⟨s, hp⟩
 ·rintro ⟨s, hp⟩
  by_cases hs : s ∈ rowsOf r
  ·exact ⟨(s, jumpsOf r s), List.mem_map.2 ⟨s, hs, rfl⟩, hp⟩
  ·have h0 := hp.1
   rw [show (s, jumpsOf r s).2 = jumpsOf r s from rfl, jumpsOf_none r s (fun e he e1 => hs ((rowsOf_mem r s).2 ⟨e, he, e1⟩))] at h0; exact absurd h0 (by simp [valI])
theorem alone_ahead {hh : List Vl → Bool × Int} {ef t : Int} {l r a b p q c : List EdP} (ha : aloneV hh ef l r = (a, 0)) (hb : allP (aheadV t) a = (b, 0)) (hp : allP (aheadV t) l = (p, 0)) (hq : allP (aheadV t) r = (q, 0)) (hc : aloneV hh ef p q = (c, 0)) : b = c := by
 obtain ⟨_, mr, _, va⟩ := alone_val ha; obtain ⟨_, mq, mc, vc⟩ := alone_val hc; obtain ⟨_, ib, vb, _⟩ := ahead_parts hb; obtain ⟨_, _, vp, _⟩ := ahead_parts hp; obtain ⟨_, _, vq, _⟩ := ahead_parts hq; have key : ∀ φ u, Wt φ u b = Wt φ u c := fun φ u => by
  rw [vb, va, vc, vp]
  by_cases c0 : cc t u = 0
  ·rw [c0, Int.zero_mul, Int.zero_mul]
  ·have c1 : cc t u = 1 := by
    unfold cc at c0 ⊢
    split
    ·rfl
    ·rename_i h; exact absurd (if_neg h) c0
   have kk : ∀ s, Kp hh (runsP r) s u = Kp hh (runsP q) s u := fun s => by
    have hiff : (∃ y ∈ runsP r, Prt hh s u y) ↔ ∃ y ∈ runsP q, Prt hh s u y := by
     rw [prt_rows mr, prt_rows mq]; have hv : ∀ z, valI (jumpsOf q z) u = valI (jumpsOf r z) u := fun z => by rw [Wt_val, Wt_val, vq, c1, Int.one_mul]
     constructor
     ·rintro ⟨z, h1, h2⟩
      exact ⟨z, by show 0 < valI (jumpsOf q z) u; rw [hv]; exact h1, h2⟩
     ·rintro ⟨z, h1, h2⟩
      exact ⟨z, by show 0 < valI (jumpsOf r z) u; rw [← hv]; exact h1, h2⟩
    by_cases e : ∃ y ∈ runsP r, Prt hh s u y
    ·rw [Kp_pos e, Kp_pos (hiff.1 e)]
    ·rw [Kp_neg e, Kp_neg (fun h => e (hiff.2 h))]
   rw [show (fun p => φ p * Kp hh (runsP r) p u) = fun p => φ p * Kp hh (runsP q) p u from funext fun s => by rw [kk s]]
 exact isC_uniq ib mc.can fun ⟨s, u⟩ => by rw [J_Wt, J_Wt, key, key]
theorem aloneV_row (hh : List Vl → Bool × Int) (ef : Int) (l r : List EdP) : (∀ e ∈ (aloneV hh ef l r).1, e.f0.length ≤ 8) ∧ (aloneV hh ef l r).1.length ≤ 4096 ∧ ((aloneV hh ef l r).2 ≠ 0 → (aloneV hh ef l r).1 = []) := by
 obtain ⟨⟨a, e⟩, h⟩ : ∃ z, aloneV hh ef l r = z := ⟨_, rfl⟩
 rw [h]
 by_cases c : e = 0
 ·subst c
  obtain ⟨_, _, m, _⟩ := alone_val h; exact ⟨fun e he => rowMay_len (m.each e he).1, m.len, fun h => absurd rfl h⟩
 ·suffices a = [] by subst this; exact ⟨fun e he => (by cases he), Nat.zero_le _, fun _ => rfl⟩
  unfold aloneV at h
  split at h
  ·split at h
   ·split at h
    ·exact (congrArg Prod.fst h).symm
    ·split at h
     ·exact (congrArg Prod.fst h).symm
     ·rcases normV_cases (alR hh (runsP r) [] (runsP l)).1 with ⟨_, _, h2⟩ | ⟨k, _, h2⟩
      ·rw [h2] at h; exact absurd (congrArg Prod.snd h).symm c
      ·rw [h2] at h; exact (congrArg Prod.fst h).symm
   ·exact (congrArg Prod.fst h).symm
  ·exact (congrArg Prod.fst h).symm
end Go.Proofs.YtmkgecapkeojaaaGreat.Eg
end
section
namespace Go.Proofs.YtmkgecapkeojaaaGreat.Eg
open Go.Proofs.YtmkgecapkeojaaaGreat Go.Proofs.YtmkgecapkeojaaaGreat.PDa Go.Proofs.YtmkgecapkeojaaaGreat.EvP
open Go.RowKit Go.Proofs.YtmkgecapkeojaaaGreatW.PrintWords Go.Proofs.YtmkgecapkeojaaaGreatW.PrintLast Go.Proofs.YtmkgecapkeojaaaGreatW.PrintMore
open Go.Proofs.YtmkgecapkeojaaaGreat.Stp Go.Proofs.YtmkgecapkeojaaaGreat.Rw
theorem r64b {z : Int} (h : (Lit.int .i64 z).wf = true) : PDd.r64 z = true := by
 have := R64.of_wf h; unfold PDd.r64; rw [Bool.and_eq_true]; exact ⟨decide_eq_true this.1, decide_eq_true this.2⟩
abbrev wfV (v : Rw.Vl) : Prop := (Lit.int .i64 v.f0).wf = true ∧ (Lit.int .i64 v.f1).wf = true ∧ v.f2.size ≤ 140737488351232
abbrev wfE (e : EdP) : Prop := ((∀ v ∈ e.f0, wfV v) ∧ e.f0.length * Tryz.prog.bytesOf 65 ≤ 140737488351232) ∧ (Lit.int .i64 e.f1).wf = true ∧ (Lit.int .i64 e.f2).wf = true
abbrev wfEs (l : List EdP) : Prop := (∀ e ∈ l, wfE e) ∧ l.length * Tryz.prog.bytesOf 41 ≤ 140737488351232
abbrev wfO (x : Op8) : Prop := (Lit.int .i64 x.f0).wf = true ∧ (Lit.int .i64 x.f1).wf = true ∧ x.f2.size ≤ 140737488351232
abbrev wfX (l : List Op8) : Prop := (∀ x ∈ l, wfO x) ∧ l.length * Tryz.prog.bytesOf 68 ≤ 140737488351232
theorem bytesV : Tryz.prog.bytesOf 65 = 32 := by kernel_rfl
theorem okEs_wf {l : List EdP} (h : wfEs l) : PDd.okEs l = true := by
 unfold PDd.okEs; refine List.all_eq_true.2 fun e he => ?_
 obtain ⟨⟨h1, h2⟩, _⟩ := h.1 e he; rw [bytesV] at h2; rw [Bool.and_eq_true]; exact ⟨decide_eq_true zq4, List.all_eq_true.2 fun v hv => r64b (h1 v hv).2.1⟩
theorem okXs_wf {l : List Op8} (h : wfX l) : PDd.okXs l = true := List.all_eq_true.2 fun x hx => r64b (h.1 x hx).2.1
end Go.Proofs.YtmkgecapkeojaaaGreat.Eg
end
