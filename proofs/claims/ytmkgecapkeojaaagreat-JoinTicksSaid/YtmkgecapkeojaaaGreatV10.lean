/- Texts of this claim, put together by a program: JoinP, HSame, Live, LawF, RefPut, RefNorm, RefProj, LawP, Any, JoinL, LiveP, LiveJ, LawT, JoinT, LawFW, LawJT, WSized. -/
import Derived.Test.YtmkgecapkeojaaaGreatV9
import Derived.Deep.DeepCutAuto
import Derived.Deep.RegionHeld3
import Derived.SizedLaws
import Derived.ChangeSlices
set_option linter.unusedVariables false
set_option linter.unusedSimpArgs false
set_option maxHeartbeats 8000000
set_option maxRecDepth 100000
section
namespace Go.Proofs.YtmkgecapkeojaaaGreat.Eg
open Go.Proofs.YtmkgecapkeojaaaGreat Go.Proofs.YtmkgecapkeojaaaGreat.PDa
open Go.RowKit Go.Proofs.YtmkgecapkeojaaaGreatW.PrintWords Go.Proofs.YtmkgecapkeojaaaGreatW.PrintLast Go.Proofs.YtmkgecapkeojaaaGreatW.PrintMore
open Go.Proofs.YtmkgecapkeojaaaGreat.SortM Go.Proofs.YtmkgecapkeojaaaGreat.Run Go.Proofs.YtmkgecapkeojaaaGreat.Stp Go.Proofs.YtmkgecapkeojaaaGreat.Rw
attribute [local go_sem] Oper.semAt_some
theorem pairs_calls (A0 A1 : Option Addr) (c0 c1 n0 n1 : Nat) (w : World) :
  Calls Tryz.prog 63 #[.slice A0 n0 c0, .slice A1 n1 c1] w fun e w' => e = .returned (.func (.func 96) #[] #[.pointer (some ⟨w.heap.size, 0, none⟩), .pointer (some ⟨w.heap.size + 1, 0, none⟩)]) ∧
   w' = (w.alloc (.cells #[.slice A0 n0 c0] 22 (0, 0))).alloc (.cells #[.slice A1 n1 c1] 22 (0, 0)) := by
 have hmf : ∀ (fn : Fn) (first cap : Array Value) (w : World), (Instr.makeFunc fn first cap).run Tryz.prog w = .ok (.func fn first cap) w := fun _ _ _ _ => rfl
 go_enter Tryz.func63, Tryz.ntmps63; go_wp2; go_ret; exact ⟨rfl, rfl⟩
def accR (ed : Gr → Gr → List EdP × Int) (out : List EdP) : List (Gr × Gr) → List EdP × Int
 | [] => (out, 0)
 | x :: xs => if (ed x.1 x.2).2 ≠ 0 then ([], (ed x.1 x.2).2) else accR ed (out ++ (ed x.1 x.2).1) xs
theorem accR_drop (ed : Gr → Gr → List EdP × Int) (out : List EdP) (l : List (Gr × Gr)) (k : Nat) (x : Gr × Gr) (h : l[k]? = some x) :
  accR ed out (l.drop k) = if (ed x.1 x.2).2 ≠ 0 then ([], (ed x.1 x.2).2) else accR ed (out ++ (ed x.1 x.2).1) (l.drop (k + 1)) := by
 obtain ⟨hk, hx⟩ := List.getElem?_eq_some_iff.1 h; rw [List.drop_eq_getElem_cons hk, hx, accR]
theorem edgesJ_len (hh : List Vl → Bool × Int) (x y : Gr) : (edgesJ hh x y).1.length ≤ 1024 := by
 unfold edgesJ
 repeat' split
 all_goals first | exact Nat.zero_le _ | exact buildP_len _ _
def PairsIs (hh : List Vl → Bool × Int) (ef : Int) (l r : List EdP) (o : List EdP × Int) : Prop :=
 ((mayE l && mayE r) = false ∧ o = ([], 2)) ∨ ((mayE l && mayE r) = true ∧ ef ≠ 0 ∧ o = ([], ef)) ∨
 ((mayE l && mayE r) = true ∧ ef = 0 ∧ (accR (edgesJ hh) [] (pairsL (runsP l) (runsP r))).2 ≠ 0 ∧ o = ([], (accR (edgesJ hh) [] (pairsL (runsP l) (runsP r))).2)) ∨
 ((mayE l && mayE r) = true ∧ ef = 0 ∧ (accR (edgesJ hh) [] (pairsL (runsP l) (runsP r))).2 = 0 ∧ NormIs (accR (edgesJ hh) [] (pairsL (runsP l) (runsP r))).1 o)
theorem Pairs_calls (hh : List Vl → Bool × Int) (ef : Int) (A0 A1 A2 : Option Addr) (c0 c1 c2 : Nat) (l r : List EdP) (x : List Op8) (w : World) (hr0 : Kd.C kE w A0 l.length l) (hrow : ∀ e ∈ l, e.f0.length ≤ 4398046511104)
  (hr1 : Kd.C kE w A1 r.length r) (hrow1 : ∀ e ∈ r, e.f0.length ≤ 4398046511104)
  (hr2 : Kd.C kO w A2 x.length x) (hc2 : x.length ≤ c2) (hhk : mayE l = true → mayE r = true → ∀ a b, a ∈ runsP l → b ∈ runsP r → (joinV a.1 b.1).2 = 0 → ∃ k, eval_Holds.f k x (joinV a.1 b.1).1 = some (hh (joinV a.1 b.1).1)) (hfk : ∃ k, expr_Form.f k x = some ef) :
  Calls Tryz.prog 29 #[.slice A0 l.length c0, .slice A1 r.length c1, .slice A2 x.length c2] w fun e w' => ∃ v o, PairsIs hh ef l r o ∧ e = .returned (.tuple #[v, .int .i64 o.2]) ∧ Kd.R kE tE w' w.heap.size (fun _ => True) v o.1 ∧ Below w.heap.size w w' := by
 have hu22 : Tryz.prog.underlying 22 = some (.slice 41) := by kernel_rfl
 have hu39 : Tryz.prog.underlying 39 = some (.slice 65) := by kernel_rfl
 have hu43 : Tryz.prog.underlying 43 = some (.slice 85) := by kernel_rfl
 have GC := Lib.hid (pairs_calls A0 A1 c0 c1 l.length r.length); have MA := Lib.hid (fun (w1 : World) (h : Below w.heap.size w w1) => May_calls A0 c0 l w1 (Kd.C_below hr0 h) hrow); have MB := Lib.hid (fun (w1 : World) (h : Below w.heap.size w w1) => May_calls A1 c1 r w1 (Kd.C_below hr1 h) hrow1); have FC := Lib.hid (fun (w1 : World) (h : Below w.heap.size w w1) => (show Calls Tryz.prog 47 #[.slice A2 x.length c2] w1 fun e w' => e = .returned (.int .i64 ef) ∧ Below w1.heap.size w1 w' from hfk.elim fun k hk => expr_Form.calls k A2 c2 x ef w1 (Kd.C_below hr2 h) hc2 hk)); have HR := Lib.hid hr0; have HRR := Lib.hid hr1; have HRX := Lib.hid hr2; have HCX := Lib.hid hc2; have HRW := Lib.hid hrow; have HRV := Lib.hid hrow1; have HHK := Lib.hid hhk; have HPI := Lib.hid (fun o (h : PairsIs hh ef l r o) => h); clear hr0 hr1 hr2 hrow hrow1 hhk hfk hc2; refine (callsIn_wide (n := 40)).1 ?_; refine callsIn_of_wp_marks Tryz.func29 rfl trivial ?_ rfl; simp only [Tryz.ntmps29, List.size_toArray, List.length_cons, List.length_nil, Nat.reduceAdd, Nat.reduceSub, Array.replicate_succ, Array.replicate_zero, List.push_toArray, List.append_toArray, List.nil_append, List.cons_append]; gi_wp2; obtain ⟨W1, hW1⟩ : ∃ W1, ((w.alloc (.cells #[.slice A2 x.length c2] 24 (0, 0))).alloc (.cells #[.slice none 0 0] 22 (0, 0))).alloc (.cells #[.int .i64 0] 27 (0, 0)) = W1 := ⟨_, rfl⟩
 have hsW1 : W1.heap.size = w.heap.size + 3 := by rw [← hW1]; simp
 have hbW1 : Below w.heap.size w W1 := by rw [← hW1]; exact below_alloc (below_alloc (below_alloc (Below.refl _ w) _) _) _
 have bx3 : W1.heap[w.heap.size]? = some (.cells #[.slice A2 x.length c2] 24 (0, 0)) := by
  have h1 := blk_new (w) (.cells #[.slice A2 x.length c2] 24 (0, 0)); rw [← hW1]; exact blk_alloc (blk_alloc (h1) _) _
 have bx4 : W1.heap[w.heap.size + 1]? = some (.cells #[.slice none 0 0] 22 (0, 0)) := by
  have h1 := blk_new (w.alloc (.cells #[.slice A2 x.length c2] 24 (0, 0))) (.cells #[.slice none 0 0] 22 (0, 0)); rw [World.size_alloc] at h1; rw [← hW1]; exact blk_alloc (h1) _
 have bx5 : W1.heap[w.heap.size + 1 + 1]? = some (.cells #[.int .i64 0] 27 (0, 0)) := by
  have h1 := blk_new ((w.alloc (.cells #[.slice A2 x.length c2] 24 (0, 0))).alloc (.cells #[.slice none 0 0] 22 (0, 0))) (.cells #[.int .i64 0] 27 (0, 0)); rw [World.size_alloc, World.size_alloc] at h1; rw [← hW1]; exact h1
 rw [hW1]; refine ⟨trivial, ?_⟩; refine (callsIn_wide.2 (MA.out W1 hbW1)).mono ?_; rintro e w2 ⟨rfl, hb2⟩; have HB2 := Lib.hid (hbW1.trans (hb2.mono hbW1.size)); have HSW := Lib.hid (show w.heap.size + 3 ≤ w2.heap.size by have := hb2.size; omega); have HX3 := Lib.hid (Boxed.below (W := W1) (B := w.heap.size) (t := 24) (v := .slice A2 x.length c2) bx3 hb2); have HX4 := Lib.hid (Boxed.below (W := W1) (B := w.heap.size + 1) (t := 22) (v := .slice none 0 0) bx4 hb2); have HX5 := Lib.hid (Boxed.below (W := W1) (B := w.heap.size + 1 + 1) (t := 27) (v := .int .i64 0) bx5 hb2); clear hW1 hsW1 hbW1 bx3 bx4 bx5 hb2; have cl4 := HX4.out.cell; have fr4 := HX4.out.frozen; have HX5' := Lib.hid (Boxed.other HX5.out (B' := w.heap.size + 1) zq4 (.slice none 0 0)); have cl5 := HX5'.out.cell; have fr5 := HX5'.out.frozen; obtain ⟨m, hm⟩ : ∃ m, mayE l = m := ⟨_, rfl⟩
 rw [hm]; cases m with
 | false =>
  have HO := Lib.hid (HPI.out ([], 2) (.inl ⟨by rw [hm]; rfl, rfl⟩)); have HZ4 := Lib.hid (Boxed.other (HX4.out.set (.slice none 0 0)) (B' := w.heap.size + 1 + 1) zq4 (.int .i64 2)); have HZ5 := Lib.hid (HX5'.out.set (.int .i64 2)); have HZB := Lib.hid (Below.setCell (Below.setCell HB2.out (p := ⟨w.heap.size + 1, 0, none⟩) zq61 (.slice none 0 0)) (p := ⟨w.heap.size + 1 + 1, 0, none⟩) zq52 (.int .i64 2)); clear hm; gi_wp2
  rename_i hk
  refine ⟨trivial, hk _ _ ?_⟩; clear hk; gi_wp2; exact ⟨_, results_c2 rfl _ _ _ rfl HZ4.out.cell (oneC_slice hu22) rfl HZ5.out.cell (oneC_int Tryz.underlying27), _, _, HO.out, rfl, Kd.R_nil _ _ _ _ _, HZB.out⟩
 | true =>
 have HM0 := Lib.hid hm; clear hm; gi_wp2; refine ⟨trivial, ?_⟩; refine (callsIn_wide.2 (MB.out w2 HB2.out)).mono ?_; rintro e w3 ⟨rfl, hb3⟩; have HB3 := Lib.hid (HB2.out.trans (hb3.mono HB2.out.size)); have HSW3 := Lib.hid (show w.heap.size + 3 ≤ w3.heap.size by have := hb3.size; have := HSW.out; omega); have HY3 := Lib.hid (Boxed.below HX3.out hb3); have HY4 := Lib.hid (Boxed.below HX4.out hb3); have HY5 := Lib.hid (Boxed.below HX5.out hb3); clear hb3 HX3 HX4 HX5 HX5' cl4 fr4 cl5 fr5 HB2 HSW; have cl4 := HY4.out.cell; have fr4 := HY4.out.frozen; have HY5' := Lib.hid (Boxed.other HY5.out (B' := w.heap.size + 1) zq4 (.slice none 0 0)); have cl5 := HY5'.out.cell; have fr5 := HY5'.out.frozen; obtain ⟨m, hm⟩ : ∃ m, mayE r = m := ⟨_, rfl⟩
 rw [hm]; cases m with
 | false =>
  have HO := Lib.hid (HPI.out ([], 2) (.inl ⟨by rw [hm, Bool.and_false], rfl⟩)); have HZ4 := Lib.hid (Boxed.other (HY4.out.set (.slice none 0 0)) (B' := w.heap.size + 1 + 1) zq4 (.int .i64 2)); have HZ5 := Lib.hid (HY5'.out.set (.int .i64 2)); have HZB := Lib.hid (Below.setCell (Below.setCell HB3.out (p := ⟨w.heap.size + 1, 0, none⟩) zq61 (.slice none 0 0)) (p := ⟨w.heap.size + 1 + 1, 0, none⟩) zq52 (.int .i64 2)); clear hm; gi_wp2; exact ⟨_, results_c2 rfl _ _ _ rfl HZ4.out.cell (oneC_slice hu22) rfl HZ5.out.cell (oneC_int Tryz.underlying27), _, _, HO.out, rfl, Kd.R_nil _ _ _ _ _, HZB.out⟩
 | true =>
 have HM1 := Lib.hid hm; have HMM := Lib.hid (show (mayE l && mayE r) = true by rw [HM0.out, hm]; rfl); have cl3 := HY3.out.cell; clear hm; gi_wp2; refine ⟨trivial, ?_⟩; refine (callsIn_wide.2 (FC.out w3 HB3.out)).mono ?_; rintro e w4 ⟨rfl, hb4⟩; have HB4 := Lib.hid (HB3.out.trans (hb4.mono HB3.out.size)); have HSW4 := Lib.hid (show w.heap.size + 3 ≤ w4.heap.size by have := hb4.size; have := HSW3.out; omega); have HX3 := Lib.hid (Boxed.below HY3.out hb4); have HX4 := Lib.hid (Boxed.below HY4.out hb4); have HX5 := Lib.hid (Boxed.below HY5.out hb4); clear hb4 HY3 HY4 HY5 HY5' cl3 cl4 fr4 cl5 fr5 HB3 HSW3
 by_cases hef : ef = 0
 case neg =>
  have be : (ef == 0) = false := beq_eq_false_iff_ne.2 hef; have HO := Lib.hid (HPI.out ([], ef) (.inr (.inl ⟨HMM.out, hef, rfl⟩))); have cl4 := HX4.out.cell; have fr4 := HX4.out.frozen; have HX5' := Lib.hid (Boxed.other HX5.out (B' := w.heap.size + 1) zq4 (.slice none 0 0)); have cl5 := HX5'.out.cell; have fr5 := HX5'.out.frozen; have HZ4 := Lib.hid (Boxed.other (HX4.out.set (.slice none 0 0)) (B' := w.heap.size + 1 + 1) zq4 (.int .i64 ef)); have HZ5 := Lib.hid (HX5'.out.set (.int .i64 ef)); have HZB := Lib.hid (Below.setCell (Below.setCell HB4.out (p := ⟨w.heap.size + 1, 0, none⟩) zq61 (.slice none 0 0)) (p := ⟨w.heap.size + 1 + 1, 0, none⟩) zq52 (.int .i64 ef)); clear hef; gi_wp2; exact ⟨_, results_c2 rfl _ _ _ rfl HZ4.out.cell (oneC_slice hu22) rfl HZ5.out.cell (oneC_int Tryz.underlying27), _, _, HO.out, rfl, Kd.R_nil _ _ _ _ _, HZB.out⟩
 case pos =>
 subst hef
 gi_wp2_with (refine ⟨trivial, ?_⟩; (with_reducible refine (callsIn_wide.2 (GC.out _)).mono ?_); rintro e w5 ⟨rfl, rfl⟩)
 obtain ⟨W5, hW5⟩ : ∃ W5, (((w4.alloc (.cells #[] 41 (0, 0))).alloc (.cells #[.slice (some ⟨w4.heap.size, 0, none⟩) 0 0] 22 (0, 0))).alloc (.cells #[.slice A0 l.length c0] 22 (0, 0))).alloc (.cells #[.slice A1 r.length c1] 22 (0, 0)) = W5 := ⟨_, rfl⟩
 have hsW5 : W5.heap.size = w4.heap.size + 4 := by rw [← hW5]; simp
 have hbW5 : Below w4.heap.size w4 W5 := by rw [← hW5]; exact below_alloc (below_alloc (below_alloc (below_alloc (Below.refl _ w4) _) _) _) _
 have bk0 : W5.heap[w4.heap.size]? = some (.cells #[] 41 (0, 0)) := by
  have h1 := blk_new (w4) (.cells #[] 41 (0, 0)); rw [← hW5]; exact blk_alloc (blk_alloc (blk_alloc (h1) _) _) _
 have bx7 : W5.heap[w4.heap.size + 1]? = some (.cells #[.slice (some ⟨w4.heap.size, 0, none⟩) 0 0] 22 (0, 0)) := by
  have h1 := blk_new (w4.alloc (.cells #[] 41 (0, 0))) (.cells #[.slice (some ⟨w4.heap.size, 0, none⟩) 0 0] 22 (0, 0)); rw [World.size_alloc] at h1; rw [← hW5]; exact blk_alloc (blk_alloc (h1) _) _
 have bp : W5.heap[w4.heap.size + 1 + 1]? = some (.cells #[.slice A0 l.length c0] 22 (0, 0)) := by
  have h1 := blk_new ((w4.alloc (.cells #[] 41 (0, 0))).alloc (.cells #[.slice (some ⟨w4.heap.size, 0, none⟩) 0 0] 22 (0, 0))) (.cells #[.slice A0 l.length c0] 22 (0, 0)); rw [World.size_alloc, World.size_alloc] at h1; rw [← hW5]; exact blk_alloc (h1) _
 have bq : W5.heap[w4.heap.size + 1 + 1 + 1]? = some (.cells #[.slice A1 r.length c1] 22 (0, 0)) := by
  have h1 := blk_new (((w4.alloc (.cells #[] 41 (0, 0))).alloc (.cells #[.slice (some ⟨w4.heap.size, 0, none⟩) 0 0] 22 (0, 0))).alloc (.cells #[.slice A0 l.length c0] 22 (0, 0))) (.cells #[.slice A1 r.length c1] 22 (0, 0)); rw [World.size_alloc, World.size_alloc, World.size_alloc] at h1; rw [← hW5]; exact h1
 have hit := pairs1_iter 39 zq4 A0 A1 c0 c1 l r (w4.heap.size + 1 + 1) (w4.heap.size + 1 + 1 + 1) (fun b => b < w.heap.size ∨ (b = w4.heap.size + 1 + 1 ∨ b = w4.heap.size + 1 + 1 + 1)) w W5 HR.out HRR.out (HB4.out.trans (hbW5.mono HB4.out.size)) ((blk_cell bp 0).trans rfl) ((blk_cell bq 0).trans rfl) (fun b h => .inl h) (.inr (.inl rfl)) (.inr (.inr rfl)) (fun b hb => by have := HSW4.out; rcases hb with h | h | h <;> omega) HM0.out HM1.out HRW.out HRV.out; obtain ⟨its, hits⟩ : ∃ x, pairsL (runsP l) (runsP r) = x := ⟨_, rfl⟩
 have HIM := Lib.hid (show ∀ y ∈ its, y.1 ∈ runsP l ∧ y.2 ∈ runsP r from fun y h => by
  rw [← hits] at h; unfold pairsL at h; obtain ⟨a, ha, hb⟩ := List.mem_flatMap.1 h; obtain ⟨b, hc, rfl⟩ := List.mem_map.1 hb; exact ⟨ha, hc⟩)
 have HIL := Lib.hid (show its.length ≤ 16777216 by
  rw [← hits, pairsL_len]; exact Nat.mul_le_mul (Nat.le_trans (runs_len l) (mayE_len HM0.out)) (Nat.le_trans (runs_len r) (mayE_len HM1.out)))
 rw [hits] at hit; have HBI := Lib.hid (fun o (h : (((accR (edgesJ hh) [] its).2 ≠ 0 ∧ o = ([], (accR (edgesJ hh) [] its).2)) ∨ ((accR (edgesJ hh) [] its).2 = 0 ∧ NormIs (accR (edgesJ hh) [] its).1 o))) => HPI.out o (by unfold PairsIs; rw [hits]; exact h.elim (fun h => .inr (.inr (.inl ⟨HMM.out, rfl, h⟩))) (fun h => .inr (.inr (.inr ⟨HMM.out, rfl, h⟩))))); rw [hW5]; have HS5 := Lib.hid hsW5; have HB5 := Lib.hid (HB4.out.trans (hbW5.mono HB4.out.size)); have HZ3 := Lib.hid (Boxed.below HX3.out hbW5); have HZ4 := Lib.hid (Boxed.below HX4.out hbW5); have HZ5 := Lib.hid (Boxed.below HX5.out hbW5); have HZ7 := Lib.hid (show Boxed W5 (w4.heap.size + 1) 22 (.slice (some ⟨w4.heap.size, 0, none⟩) 0 0) from bx7); have HO5 := Lib.hid (show Kd.R kE tE W5 w.heap.size (fun _ => True) (.slice (some ⟨w4.heap.size, 0, none⟩) 0 0) [] from ⟨fun _ _ => trivial, [], ⟨rfl, .inr ⟨w4.heap.size, 0, #[], rfl, by have := HSW4.out; omega, bk0, Nat.le_refl _, Nat.zero_le _, rfl, rfl⟩⟩, Reps.none _ _⟩); have HIT := Lib.hid hit; clear hW5 hsW5 hbW5 bk0 bx7 bp bq hit hits HX3 HX4 HX5; have hS0 : ∀ b, (fun b => OwnS (w4.heap.size + 1) (.slice (some ⟨w4.heap.size, 0, none⟩) 0 0) b ∨ (b = w.heap.size + 1 ∨ b = w.heap.size + 1 + 1)) b → ¬ (b < w.heap.size ∨ (b = w4.heap.size + 1 + 1 ∨ b = w4.heap.size + 1 + 1 + 1)) ∧ b < W5.heap.size := by
  intro b hb; have h1 := HS5.out; have h2 := HSW4.out
  rcases hb with (rfl | hb) | hb
  ·omega
  ·have : w4.heap.size = b := by simpa [Value.ownBlock] using hb
   omega
  ·omega
 refine range_outer (F := Fence.wide) rfl zq4 (gf := 96) (lb := #[.pointer (some ⟨w4.heap.size + 1 + 1, 0, none⟩), .pointer (some ⟨w4.heap.size + 1 + 1 + 1, 0, none⟩)]) rfl trivial (enters_of Tryz.func96 zq17 rfl) HIT.out (Keeps.refl _ _) (fun x args W h => by obtain ⟨_, _, _, _, _, _, _, _, rfl, _⟩ := h; rfl)
  (fun k S W => ∃ v out, S = (fun b => OwnS (w4.heap.size + 1) (v) b ∨ (b = w.heap.size + 1 ∨ b = w.heap.size + 1 + 1)) ∧ Boxed W w.heap.size 24 (.slice A2 x.length c2) ∧ Boxed W (w.heap.size + 1) 22 (.slice none 0 0) ∧ Boxed W (w.heap.size + 1 + 1) 27 (.int .i64 0) ∧
   Boxed W (w4.heap.size + 1) 22 v ∧ Kd.R kE tE W w.heap.size (fun _ => True) v out ∧ Below w.heap.size w W ∧ (out.length ≤ k * 1024 ∧ accR (edgesJ hh) [] its = accR (edgesJ hh) out (its.drop k)))
  (fun c S W => c = .ret ∧ ∃ e, Boxed W (w.heap.size + 1) 22 (.slice none 0 0) ∧ Boxed W (w.heap.size + 1 + 1) 27 (.int .i64 e) ∧ Below w.heap.size w W ∧ accR (edgesJ hh) [] its = ([], e) ∧ e ≠ 0)
  (fun y args a' W => ∃ Aa ca Ab cb Af cf Ag cg Bp, args = #[.agg #[.slice Aa y.1.1.length ca, .slice Ab y.2.1.length cb, .slice Af y.1.2.length cf, .slice Ag y.2.2.length cg]] ∧
   a' = { tmps := #[.slice A0 l.length c0, .slice A1 r.length c1, .slice A2 x.length c2, undef, undef, .pointer (some ⟨w.heap.size, 0, none⟩), .pointer (some ⟨w.heap.size + 1, 0, none⟩), .pointer (some ⟨w.heap.size + 1 + 1, 0, none⟩), .int .i64 0, .pointer (some ⟨w4.heap.size + 1, 0, none⟩), .pointer (some ⟨Bp, 0, none⟩), undef, undef, .slice A0 l.length c0, .bool true, .bool false, .bool false, .slice A1 r.length c1, .bool true, .bool false, .bool false, .slice A2 x.length c2, .int .i64 0, .int .i64 0, .bool false, undef, .slice (some ⟨w4.heap.size, 0, none⟩) 0 0, .slice A0 l.length c0, .slice A1 r.length c1, .func (.func 96) #[] #[.pointer (some ⟨w4.heap.size + 1 + 1, 0, none⟩), .pointer (some ⟨w4.heap.size + 1 + 1 + 1, 0, none⟩)], .agg #[.slice Aa y.1.1.length ca, .slice Ab y.2.1.length cb, .slice Af y.1.2.length cf, .slice Ag y.2.2.length cg], undef, undef, undef, undef, undef, undef, undef, undef, undef, undef, undef, undef, undef, undef, undef, undef], defers := [] } ∧
   W.heap[Bp]? = some (.cells #[.slice Aa y.1.1.length ca, .slice Ab y.2.1.length cb, .slice Af y.1.2.length cf, .slice Ag y.2.2.length cg] 90 (0, 0)))
  (fun k S => Grow.ex fun v => Grow.ex fun out => (Grow.const _ _).and ((Grow.boxed _ _ _ _).and ((Grow.boxed _ _ _ _).and ((Grow.boxed _ _ _ _).and ((Grow.boxed _ _ _ _).and ((Grow.R _ _ _ _ _ _).and ((Grow.base (by have := HS5.out; have := HSW4.out; omega) w (Nat.le_refl _)).and (Grow.const _ _))))))))
  (fun c S => (Grow.const _ _).and (Grow.ex fun e => (Grow.boxed _ _ _ _).and ((Grow.boxed _ _ _ _).and ((Grow.base (by have := HS5.out; have := HSW4.out; omega) w (Nat.le_refl _)).and (Grow.const _ _)))))
  (fun y args => Grow.ex fun _ => Grow.ex fun _ => Grow.ex fun _ => Grow.ex fun _ => Grow.ex fun _ => Grow.ex fun _ => Grow.ex fun _ => Grow.ex fun _ => (Grow.const _ _).and (((Grow.R _ _ _ _ _ _).and (Grow.R _ _ _ _ _ _)).and ((Grow.R _ _ _ _ _ _).and (Grow.R _ _ _ _ _ _))))
  (fun y args a' => Grow.ex fun _ => Grow.ex fun _ => Grow.ex fun _ => Grow.ex fun _ => Grow.ex fun _ => Grow.ex fun _ => Grow.ex fun _ => Grow.ex fun _ => Grow.ex fun _ => (Grow.const _ _).and ((Grow.const _ _).and (Grow.blk _ _ _ _ _)))
  (fun b => OwnS (w4.heap.size + 1) (.slice (some ⟨w4.heap.size, 0, none⟩) 0 0) b ∨ (b = w.heap.size + 1 ∨ b = w.heap.size + 1 + 1)) hS0 ⟨_, [], rfl, HZ3.out, HZ4.out, HZ5.out, HZ7.out, HO5.out, HB5.out, Nat.zero_le _, by rw [List.drop_zero]⟩ ?assign ?body ?done ?stop
 case assign =>
  rintro l' k S y args W K hx hi ⟨Aa, ca, Ab, cb, Af, cf, Ag, cg, rfl, hphi⟩ hK; clear hi hphi; gi_wp2; exact hK _ _ (below_alloc (Below.refl _ W) _) ⟨Aa, ca, Ab, cb, Af, cf, Ag, cg, W.heap.size, rfl, rfl, blk_new W _⟩
 case body =>
  rintro l' k S y args a' W hl' ⟨r0, hr0⟩ hx hSb hSl hkR ⟨v, out, rfl, bx3, bx4, bx5, bx7, hRo, hBW, hout, hEE⟩ ⟨Aa, ca, Ab, cb, Af, cf, Ag, cg, he1, ⟨hRa, hRb⟩, hRf, hRg⟩ ⟨Aa2, ca2, Ab2, cb2, Af2, cf2, Ag2, cg2, Bp, he2, rfl, hbp⟩; rw [he1] at he2; cases he2; dsimp only []; have hxm := HIM.out y (List.mem_of_getElem? hx); have HH := Lib.hid (accR_drop (edgesJ hh) out its k y hx); have HK := Lib.hid (show k < 16777216 by have h1 := (List.getElem?_eq_some_iff.1 hx).1; have := HIL.out; omega); have HV := Lib.hid (edges_calls hh y.1 y.2 Aa Ab Af Ag A2 ca cb cf cg c2 x W hRa hRb hRf hRg (Kd.C_below HRX.out hBW) HCX.out (HHK.out HM0.out HM1.out y.1 y.2 hxm.1 hxm.2)); have HEL := Lib.hid (edgesJ_len hh y.1 y.2); obtain ⟨⟨es, he⟩, hhb⟩ : ∃ z, edgesJ hh y.1 y.2 = z := ⟨_, rfl⟩
  rw [hhb] at HV HH HEL; have HBX3 := Lib.hid bx3; have HBX4 := Lib.hid bx4; have HBX5 := Lib.hid bx5; have HBX7 := Lib.hid bx7; have HRO := Lib.hid hRo; have HBW := Lib.hid hBW; have HEE := Lib.hid hEE; have HOUT := Lib.hid hout; have HSB := Lib.hid hSb; have cl3 := bx3.cell; obtain ⟨na, hna⟩ : ∃ n, y.1.1.length = n := ⟨_, rfl⟩
  obtain ⟨nb, hnb⟩ : ∃ n, y.2.1.length = n := ⟨_, rfl⟩
  obtain ⟨nf, hnf⟩ : ∃ n, y.1.2.length = n := ⟨_, rfl⟩
  obtain ⟨ng, hng⟩ : ∃ n, y.2.2.length = n := ⟨_, rfl⟩
  rw [hna, hnb, hnf, hng] at hbp HV ⊢; have y0 : W.cell? ⟨Bp, 0, none⟩ = some (.slice Aa na ca) := (blk_cell hbp 0).trans rfl; have y1 : W.cell? ⟨Bp, 1, none⟩ = some (.slice Ab nb cb) := (blk_cell hbp 1).trans rfl; have y2 : W.cell? ⟨Bp, 2, none⟩ = some (.slice Af nf cf) := (blk_cell hbp 2).trans rfl; have y3 : W.cell? ⟨Bp, 3, none⟩ = some (.slice Ag ng cg) := (blk_cell hbp 3).trans rfl; clear hRa hRb hRf hRg bx3 bx4 bx5 bx7 hBW hEE hx he1 hSb hSl hkR hr0 hl' hRo hout hxm hhb hna hnb hnf hng hbp; gi_wp2; refine ⟨trivial, ?_⟩; refine (CallsIn.inRound l' (callsIn_wide.2 HV.out)).mono ?_; rintro e w6 ⟨ve, rfl, hRe, hb6⟩; simp only at hRe ⊢; obtain ⟨Ae, ce, rfl, hce, hRd⟩ := OwnRow.reads hRe.2; have HRD := Lib.hid hRd; have HB6 := Lib.hid hb6; clear hb6 hRe y0 y1 y2 y3 cl3 hce hRd; have HQ3 := Lib.hid (Boxed.below HBX3.out HB6.out); have HQ4 := Lib.hid (Boxed.below HBX4.out HB6.out); have HQ5 := Lib.hid (Boxed.below HBX5.out HB6.out); have HQ7 := Lib.hid (Boxed.below HBX7.out HB6.out); have HRO6 := Lib.hid (Kd.R_below HRO.out HB6.out)
  by_cases hee : he = 0
  ·have be : (he == 0) = true := by rw [hee]; rfl
   have HH2 := Lib.hid (show accR (edgesJ hh) [] its = accR (edgesJ hh) (out ++ es) (its.drop (k + 1)) by rw [HEE.out, HH.out, if_neg (by simp [hee])]); clear hee; obtain ⟨o2, ho2⟩ : ∃ o2, out ++ es = o2 := ⟨_, rfl⟩
   have HL2 := Lib.hid (show o2.length ≤ (k + 1) * 1024 by have h1 := HOUT.out; have h3 : es.length ≤ 1024 := HEL.out; rw [← ho2, List.length_append]; omega); rw [ho2] at HH2; have HO2 := Lib.hid ho2; have c7 := HQ7.out.cell; have HOWN := Lib.hid (fun b (h : v.ownBlock = some b) => (own_ltR HRO.out h).2); clear ho2
   gi_wp2_with (refine wpListIn_append_R kE w.heap.size rfl _ _ 22 41 (.agg #[.slice none 0 0, (.int .i64 0), (.int .i64 0)]) 40 rfl hu22 info41 rfl zq34 zq4 v out es _ _ _ (fun _ => True) (fun k => W.heap.size ≤ k) rfl rfl HRO6.out HRD.out ?aM ?aK (fun _ _ => trivial) ?aS ?aL ?_)
   case aM => exact fun z cs h => kE.M_lower HBW.out.size (kE.M_mono (fun q hq => hq.2.1) (kE.M_bound h))
   case aK => exact fun q hq e' => Nat.lt_irrefl _ (Nat.lt_of_lt_of_le (HOWN.out q e'.symm) hq)
   case aS => exact Nat.le_trans HBW.out.size HB6.out.size
   case aL => have h1 := HOUT.out; have h2 := HK.out; have h3 : es.length ≤ 1024 := HEL.out; omega
   intro v1 w8 ho hb hat; rw [HO2.out] at ho; obtain ⟨Az, cz, rfl⟩ := Kd.R_slice ho; have HR7 := Lib.hid HRO6.out; obtain ⟨z1, z2, z3, z4, z5⟩ := box_Rt HQ7.out HR7.out zq34 ho hb hat; have d7 := z1.cell; have g7 := z1.frozen; have HK3 := Lib.hid (HQ3.out.kept hb (Kd.R_ne HR7.out HQ3.out zq34)); have HK4 := Lib.hid (HQ4.out.kept hb (Kd.R_ne HR7.out HQ4.out zq34)); have HK5 := Lib.hid (HQ5.out.kept hb (Kd.R_ne HR7.out HQ5.out zq34)); have HG := Lib.hid hb; have HZ2 := Lib.hid z2; have HZ3 := Lib.hid z3; have HZ4 := Lib.hid z4; have HZ5 := Lib.hid z5; clear z1 z2 z3 z4 z5 ho hb hat c7; have HY := Lib.hid ((Step.of_below (S := (fun b => OwnS (w4.heap.size + 1) v b ∨ (b = w.heap.size + 1 ∨ b = w.heap.size + 1 + 1))) HB6.out).trans (HZ4.out.wide (fun b => b = w.heap.size + 1 ∨ b = w.heap.size + 1 + 1))); have HB7w := Lib.hid (HBW.out.trans (HB6.out.mono HBW.out.size)); have hn4 : w.heap.size + 1 ≠ w4.heap.size + 1 := by have := HSW4.out; omega
   have hn5 : w.heap.size + 1 + 1 ≠ w4.heap.size + 1 := by have := HSW4.out; omega
   have hn3 : w.heap.size ≠ w4.heap.size + 1 := by have := HSW4.out; omega
   have HW4 := Lib.hid (Boxed.other HK4.out hn4 (.slice Az o2.length cz)); have HW5 := Lib.hid (Boxed.other HK5.out hn5 (.slice Az o2.length cz)); have HBF := Lib.hid (Below.setCell (HB7w.out.trans (grown_base HR7.out HG.out HB7w.out.size)) (p := ⟨w4.heap.size + 1, 0, none⟩) (by show _ ≤ w4.heap.size + 1; have := HSW4.out; omega) (.slice Az o2.length cz)); have HYB := Lib.hid (show ∀ b, (fun b => OwnS (w4.heap.size + 1) (.slice Az o2.length cz) b ∨ (b = w.heap.size + 1 ∨ b = w.heap.size + 1 + 1)) b → b < (w8.setCell ⟨w4.heap.size + 1, 0, none⟩ (.slice Az o2.length cz)).heap.size from fun b hb => hb.elim (HZ5.out b) (fun hb => hb.elim (fun h => h.symm ▸ HW4.out.lt) (fun h => h.symm ▸ HW5.out.lt))); gi_wp2; exact ⟨_, HY.out, HYB.out, _, rfl, Boxed.other HK3.out hn3 _, HW4.out, HW5.out, HZ2.out, o2, HZ3.out, HBF.out, HL2.out, HH2.out⟩
  ·have be : (he == 0) = false := beq_eq_false_iff_ne.2 hee
   have HNE := Lib.hid hee; have HH2 := Lib.hid (show accR (edgesJ hh) [] its = ([], he) by rw [HEE.out, HH.out, if_pos hee]); clear hee; have q4 := HQ4.out.cell; have f4 := HQ4.out.frozen; have HQ5' := Lib.hid (Boxed.other HQ5.out (B' := w.heap.size + 1) zq4 (.slice none 0 0)); have q5 := HQ5'.out.cell; have f5 := HQ5'.out.frozen; have HE1 := Lib.hid (((Step.of_below (S := (fun b => OwnS (w4.heap.size + 1) v b ∨ (b = w.heap.size + 1 ∨ b = w.heap.size + 1 + 1))) HB6.out).trans (step_set (.inr (.inl rfl)) (.slice none 0 0))).trans (step_set (.inr (.inr rfl)) (.int .i64 he))); have HE14 := Lib.hid (Boxed.other (HQ4.out.set (.slice none 0 0)) (B' := w.heap.size + 1 + 1) zq4 (.int .i64 he)); have HE15 := Lib.hid (HQ5'.out.set (.int .i64 he)); have HE1W := Lib.hid (Below.setCell (Below.setCell (HBW.out.trans (HB6.out.mono HBW.out.size)) (p := ⟨w.heap.size + 1, 0, none⟩) zq61 (.slice none 0 0)) (p := ⟨w.heap.size + 1 + 1, 0, none⟩) zq52 (.int .i64 he)); gi_wp2; exact ⟨_, HE1.out, fun b hb => Nat.lt_of_lt_of_le (HSB.out b hb) HE1.out.size, rfl, HE14.out, he, HE15.out, HE1W.out, HH2.out, HNE.out⟩
 case done =>
  rintro D S W hD hSD hst hsb ⟨v, out, rfl, bx3, bx4, bx5, bx6, hRo, hBW, hout, hEE⟩ hK; obtain ⟨Av, cv, rfl⟩ := Kd.R_slice hRo; rw [List.drop_length] at hEE; have hEE2 : accR (edgesJ hh) [] its = (out, 0) := hEE; have HBI2 := Lib.hid (fun r (h : NormIs out r) => HBI.out r (.inr ⟨by rw [hEE2], by rw [hEE2]; exact h⟩)); have hD4 : D ≠ w.heap.size + 1 := by have := HS5.out; have := HSW4.out; omega
  have hD5 : D ≠ w.heap.size + 1 + 1 := by have := HS5.out; have := HSW4.out; omega
  have HD := Lib.hid (show w.heap.size ≤ D by have := HS5.out; have := HSW4.out; omega); have cl6 := bx6.cell; have HX4D := Lib.hid bx4; have HX5D := Lib.hid bx5; have HBWD := Lib.hid hBW; have HKD := Lib.hid hK; have NC := Lib.hid (NormE_calls Av cv out W (Kd.R_reads' hRo).2.2 (by have := HIL.out; omega)); clear hst hsb hSD bx3 bx4 bx5 bx6 hBW hEE hEE2 hRo hK; gi_wp2; refine ⟨trivial, ?_⟩; refine (callsIn_wide.2 NC.out).mono ?_; rintro e w7 ⟨vn, rn, hnorm, rfl, hRn, hb7⟩; obtain ⟨An, cn, rfl⟩ := Kd.R_slice hRn; have HRES := Lib.hid (HBI2.out rn hnorm); have bx4 := Boxed.below HX4D.out hb7; have bx5 := Boxed.below HX5D.out hb7; have hK7 : w7.heap[D]? = some (.deferred (some [])) := (hb7.block D (Array.getElem?_eq_some_iff.1 HKD.out).1).trans HKD.out; have hBW7 := HBWD.out.trans (hb7.mono HBWD.out.size); have hRo := Kd.R_lower hRn HBWD.out.size; have cl4 := bx4.cell; have fr4 := bx4.frozen; have HB4' := Lib.hid (Boxed.other (bx4.set (.slice An rn.1.length cn)) (B' := w.heap.size + 1 + 1) zq4 (.int .i64 rn.2)); have hb5 := Boxed.other bx5 (B' := w.heap.size + 1) zq4 (.slice An rn.1.length cn); have cl5 := hb5.cell; have fr5 := hb5.frozen; have HB5' := Lib.hid (hb5.set (.int .i64 rn.2)); have HK2 := Lib.hid (show ((w7.setCell ⟨w.heap.size + 1, 0, none⟩ (.slice An rn.1.length cn)).setCell ⟨w.heap.size + 1 + 1, 0, none⟩ (.int .i64 rn.2)).heap[D]? = some (.deferred (some [])) from ((Below.heap_setCell _ ⟨w.heap.size + 1 + 1, 0, none⟩ (.int .i64 rn.2) D hD5).trans (Below.heap_setCell w7 ⟨w.heap.size + 1, 0, none⟩ (.slice An rn.1.length cn) D hD4)).trans hK7); have HBY' := Lib.hid (Below.setCell (Below.setCell hBW7 (p := ⟨w.heap.size + 1, 0, none⟩) zq61 (.slice An rn.1.length cn)) (p := ⟨w.heap.size + 1 + 1, 0, none⟩) zq52 (.int .i64 rn.2)); have HRZ := Lib.hid ((Grow.R D tE w.heap.size (fun _ => True) (.slice An rn.1.length cn) rn.1).put (.deferred none) (Kd.R_set (Kd.R_set hRo bx4 zq34 0 (.slice An rn.1.length cn)) hb5 zq34 0 (.int .i64 rn.2)) (Nat.le_refl D) HK2.out rfl); clear bx4 bx5 hb5 hRo hRn hb7 hK7 hBW7 hnorm; gi_wp2; refine ⟨by simp, .inl ⟨_, _, rfl, run_takeDeferred HK2.out, ?_⟩⟩; exact ⟨_, results_c2 rfl _ _ _ rfl (Boxed.cell (put_boxed HB4'.out hD4.symm _)) (oneC_slice hu22) rfl (Boxed.cell (put_boxed HB5'.out hD5.symm _)) (oneC_int Tryz.underlying27), _, rn, HRES.out, rfl, HRZ.out, below_put (Nat.le_refl _) _ HBY'.out HD.out⟩
 case stop =>
  rintro D c S W hD hSD hst hsb ⟨rfl, e, bx4, bx5, hBW, hEE, hne⟩ hK; have HRES := Lib.hid (HBI.out ([], e) (.inl ⟨by rw [hEE]; exact hne, by rw [hEE]⟩)); have hD4 : D ≠ w.heap.size + 1 := by have := HS5.out; have := HSW4.out; omega
  have hD5 : D ≠ w.heap.size + 1 + 1 := by have := HS5.out; have := HSW4.out; omega
  have HD := Lib.hid (show w.heap.size ≤ D by have := HS5.out; have := HSW4.out; omega); have HB4' := Lib.hid bx4; have HB5' := Lib.hid bx5; have HBY' := Lib.hid hBW; have HK2 := Lib.hid hK; clear hK bx4 bx5 hBW hEE hst hsb hSD hne; gi_wp2; refine ⟨by simp, .inl ⟨_, _, rfl, run_takeDeferred HK2.out, ?_⟩⟩; exact ⟨_, results_c2 rfl _ _ _ rfl (Boxed.cell (put_boxed HB4'.out hD4.symm _)) (oneC_slice hu22) rfl (Boxed.cell (put_boxed HB5'.out hD5.symm _)) (oneC_int Tryz.underlying27), _, [], e, HRES.out, rfl, Kd.R_nil _ _ _ _ _, below_put (Nat.le_refl _) _ HBY'.out HD.out⟩
end Go.Proofs.YtmkgecapkeojaaaGreat.Eg
end
section
namespace Go.Proofs.YtmkgecapkeojaaaGreat.Eg
open Go.Proofs.YtmkgecapkeojaaaGreat Go.Proofs.YtmkgecapkeojaaaGreat.PDa
open Go.RowKit Go.Proofs.YtmkgecapkeojaaaGreatW.PrintWords Go.Proofs.YtmkgecapkeojaaaGreatW.PrintLast Go.Proofs.YtmkgecapkeojaaaGreatW.PrintMore
open Go.Proofs.YtmkgecapkeojaaaGreat.Stp Go.Proofs.YtmkgecapkeojaaaGreat.Rw
structure Hold (p : Prop) : Prop where
 out : p
theorem hold_intro {p : Prop} (h : Hold p) : p := h.out
def v1 : Vl := ⟨1, 1, ⟨#[]⟩⟩
def v2 : Vl := ⟨1, 2, ⟨#[]⟩⟩
def e1 : EdP := ⟨[v1], 2, 1⟩
def e2 : EdP := ⟨[v1], 5, -1⟩
def e3 : EdP := ⟨[v2], 5, 1⟩
theorem C_lit {α : Type} {d : Kd α} {W : World} {B : Nat} {t : TypeId} {cs : Array Value} {ps qs : List α} {inner : List Value} {n : Nat} (hq : ps = qs) (hb : W.heap[B]? = some (.cells cs t (0, 0))) (hi : cs.toList = inner) (hn : qs.length = n) (hn2 : n ≤ 100) (hr : Reps (d.K W) d.sz ps inner) : Kd.C d W (some ⟨B, 0, none⟩) n qs := by
 subst hq; subst hn; have ho : OwnRow (d.K W) t d.sz W 0 (.slice (some ⟨B, 0, none⟩) ps.length ps.length) ps := ⟨inner, ⟨hr.1, .inr ⟨B, ps.length, cs, rfl, Nat.zero_le _, hb, Nat.le_refl _, by unfold maxLen; omega, by rw [← Array.length_toList, hi, hr.1], by rw [hi, List.take_of_length_le (by rw [hr.1]; exact Nat.le_refl _)]⟩⟩, hr⟩
 obtain ⟨A, c, he, _, h⟩ := OwnRow.reads ho; cases he; exact h
end Go.Proofs.YtmkgecapkeojaaaGreat.Eg
end
section
namespace Go.Proofs.YtmkgecapkeojaaaGreat.Eg
open Go.Proofs.YtmkgecapkeojaaaGreat Go.Proofs.YtmkgecapkeojaaaGreat.PDa
open Go.RowKit Go.Proofs.YtmkgecapkeojaaaGreatW.PrintWords Go.Proofs.YtmkgecapkeojaaaGreatW.PrintLast Go.Proofs.YtmkgecapkeojaaaGreatW.PrintMore
open Go.Proofs.YtmkgecapkeojaaaGreat.Stp Go.Proofs.YtmkgecapkeojaaaGreat.Run Go.Proofs.YtmkgecapkeojaaaGreat.Rw
structure Hold2 (p : Prop) : Prop where
 out : p
end Go.Proofs.YtmkgecapkeojaaaGreat.Eg
end
section
namespace Go.Proofs.YtmkgecapkeojaaaGreat.Eg
open Go.Proofs.YtmkgecapkeojaaaGreat Go.Proofs.YtmkgecapkeojaaaGreat.PDa
open Go.RowKit Go.Proofs.YtmkgecapkeojaaaGreatW.PrintWords Go.Proofs.YtmkgecapkeojaaaGreatW.PrintLast Go.Proofs.YtmkgecapkeojaaaGreatW.PrintMore
open Go.Proofs.YtmkgecapkeojaaaGreat.Stp Go.Proofs.YtmkgecapkeojaaaGreat.Rw
def Ans (r : List EdP × Int) (w : World) (e : Ending) (w' : World) : Prop := ∃ A c, e = .returned (.tuple #[.slice A r.1.length c, .int .i64 r.2]) ∧ Kd.C kE w' A r.1.length r.1 ∧ r.1.length ≤ c ∧ Below w.heap.size w w'
theorem normV_cases (l : List EdP) : (okN l ∧ Fit (flat l) ∧ normV l = (flat l, 0)) ∨ ∃ k, k ≠ 0 ∧ normV l = ([], k) := by
 by_cases h : (normV l).2 = 0
 ·exact .inl (okN_of_norm h)
 ·refine .inr ⟨(normV l).2, h, ?_⟩
  by_cases hok : okN l
  ·rcases normV_flat hok with ⟨_, h2⟩ | ⟨_, h2⟩
   ·rw [h2] at h; exact absurd rfl h
   ·rw [h2]
  ·unfold normV
   split
   ·rfl
   ·split
    ·rfl
    ·rename_i h1 h2
     rw [Bool.not_eq_true, List.any_eq_false] at h1 h2; exact absurd ⟨fun e he => by simpa using h1 e he, fun e he => by simpa using h2 e he⟩ hok
end Go.Proofs.YtmkgecapkeojaaaGreat.Eg
end
section
namespace Go.Proofs.YtmkgecapkeojaaaGreat.Eg
open Go.Proofs.YtmkgecapkeojaaaGreat Go.Proofs.YtmkgecapkeojaaaGreat.PDa
open Go.Proofs.YtmkgecapkeojaaaGreat.EvP (evalV formV holdsV)
open Go.RowKit Go.Proofs.YtmkgecapkeojaaaGreatW.PrintWords Go.Proofs.YtmkgecapkeojaaaGreat.Stp Go.Proofs.YtmkgecapkeojaaaGreat.Rw Go.Proofs.YtmkgecapkeojaaaGreat.Cmp Go.Proofs.YtmkgecapkeojaaaGreat.Canon
def pairsV (hh : List Vl → Bool × Int) (ef : Int) (l r : List EdP) : List EdP × Int :=
 if (mayE l && mayE r) = true then (if ef ≠ 0 then ([], ef) else if (accR (edgesJ hh) [] (pairsL (runsP l) (runsP r))).2 ≠ 0 then ([], (accR (edgesJ hh) [] (pairsL (runsP l) (runsP r))).2)
  else normV (accR (edgesJ hh) [] (pairsL (runsP l) (runsP r))).1) else ([], 2)
theorem pairs_is {hh : List Vl → Bool × Int} {ef : Int} {l r : List EdP} {o : List EdP × Int} (h : PairsIs hh ef l r o) : o = pairsV hh ef l r := by
 unfold pairsV
 rcases h with ⟨h1, h2⟩ | ⟨h1, h2, h3⟩ | ⟨h1, h2, h3, h4⟩ | ⟨h1, h2, h3, h4⟩
 ·rw [if_neg (by rw [h1]; decide), h2]
 ·rw [if_pos h1, if_pos h2, h3]
 ·rw [if_pos h1, if_neg (by simpa using h2), if_pos h3, h4]
 ·rw [if_pos h1, if_neg (by simpa using h2), if_neg (by simpa using h3)]; exact norm_is h4
def Wt (φ : List Vl → Int) (t : Int) (l : List EdP) : Int := S (fun k => if k.2 ≤ t then φ k.1 else 0) (l.map pE)
theorem Wt_append (φ : List Vl → Int) (t : Int) (a b : List EdP) : Wt φ t (a ++ b) = Wt φ t a + Wt φ t b := by unfold Wt; rw [List.map_append, S_append]
theorem Wt_J (φ : List Vl → Int) (t : Int) {a b : List EdP} (h : ∀ k, JE a k = JE b k) : Wt φ t a = Wt φ t b := S_congr _ h
theorem Wt_nil (φ : List Vl → Int) (t : Int) : Wt φ t [] = 0 := rfl
theorem Wt_cons (φ : List Vl → Int) (t : Int) (e : EdP) (es : List EdP) : Wt φ t (e :: es) = (if e.f1 ≤ t then φ e.f0 else 0) * e.f2 + Wt φ t es := rfl
theorem Wt_put (φ : List Vl → Int) (t : Int) (r : List Vl) : ∀ f : List Jp, Wt φ t (putP [] r f) = φ r * valI f t
 | [] => by simp [putP, Wt_nil, valI]
 | j :: js => by
  have e : putP [] r (j :: js) = ⟨r, j.f0, j.f1⟩ :: putP [] r js := rfl; rw [e, Wt_cons, Wt_put φ t r js, valI]
  split
  ·rw [Int.mul_add]
  ·simp
def Sm {α : Type} (f : α → Int) : List α → Int
 | [] => 0
 | x :: xs => f x + Sm f xs
theorem Sm_congr {α : Type} {f g : α → Int} : ∀ {l : List α}, (∀ x ∈ l, f x = g x) → Sm f l = Sm g l
 | [], _ => rfl
 | x :: xs, h => by rw [Sm, Sm, h x List.mem_cons_self, Sm_congr fun y hy => h y (List.mem_cons_of_mem _ hy)]
theorem Sm_append {α : Type} (f : α → Int) : ∀ a b : List α, Sm f (a ++ b) = Sm f a + Sm f b
 | [], b => by simp [Sm]
 | x :: xs, b => by rw [List.cons_append, Sm, Sm, Sm_append f xs b]; omega
theorem Sm_map {α β : Type} (f : β → Int) (g : α → β) : ∀ l : List α, Sm f (l.map g) = Sm (fun x => f (g x)) l
 | [] => rfl
 | x :: xs => by rw [List.map_cons, Sm, Sm, Sm_map f g xs]
theorem Sm_mul {α : Type} (c : Int) (f : α → Int) : ∀ l : List α, Sm (fun x => c * f x) l = c * Sm f l
 | [] => by simp [Sm]
 | x :: xs => by rw [Sm, Sm, Sm_mul c f xs, Int.mul_add]
theorem Wt_flatMap {α : Type} (φ : List Vl → Int) (t : Int) (g : α → List EdP) : ∀ l : List α, Wt φ t (l.flatMap g) = Sm (fun x => Wt φ t (g x)) l
 | [] => rfl
 | x :: xs => by rw [List.flatMap_cons, Wt_append, Wt_flatMap φ t g xs, Sm]
theorem Wt_flatG (φ : List Vl → Int) (t : Int) (G : List Gr) : Wt φ t (flatG G) = Sm (fun x => φ x.1 * valI x.2 t) G := by
 unfold flatG; rw [Wt_flatMap]; exact Sm_congr fun x _ => Wt_put φ t x.1 x.2
theorem Wt_runs (φ : List Vl → Int) (t : Int) (l : List EdP) : Sm (fun x => φ x.1 * valI x.2 t) (runsP l) = Wt φ t l := by rw [← Wt_flatG, runs_flat]
theorem Wt_val (r : List Vl) (t : Int) (l : List EdP) : valI (jumpsOf l r) t = Wt (fun q => if q = r then 1 else 0) t l := by
 rw [val_split]; unfold Wt
 congr 1
 funext k
 by_cases h : k.1 = r <;> by_cases h2 : k.2 ≤ t <;> simp [h, h2]
theorem Wt_congr {φ ψ : List Vl → Int} (t : Int) : ∀ {l : List EdP}, (∀ e ∈ l, φ e.f0 = ψ e.f0) → Wt φ t l = Wt ψ t l
 | [], _ => rfl
 | e :: es, h => by rw [Wt_cons, Wt_cons, h e List.mem_cons_self, Wt_congr t fun y hy => h y (List.mem_cons_of_mem _ hy)]
theorem Wt_mul (c : Int) (φ : List Vl → Int) (t : Int) : ∀ l : List EdP, Wt (fun q => c * φ q) t l = c * Wt φ t l
 | [] => by simp [Wt_nil]
 | e :: es => by
  rw [Wt_cons, Wt_cons, Wt_mul c φ t es, Int.mul_add, ← Int.mul_assoc]
  split <;> simp
def Bf (ψ : List Vl → Int) (t : Int) (l r : List EdP) : Int := Wt (fun p => Wt (fun q => ψ (p ++ q)) t r) t l
theorem Bf_runs (ψ : List Vl → Int) (t : Int) (l r : List EdP) : Sm (fun x : Gr × Gr => ψ (x.1.1 ++ x.2.1) * (valI x.1.2 t * valI x.2.2 t)) (pairsL (runsP l) (runsP r)) = Bf ψ t l r := by
 unfold Bf; rw [← Wt_runs]; generalize runsP l = G
 induction G with
 | nil => rfl
 | cons x xs ih =>
  have e : pairsL (x :: xs) (runsP r) = ((runsP r).map fun y => (x, y)) ++ pairsL xs (runsP r) := by simp [pairsL]
  rw [e, Sm_append, ih, Sm_map, Sm, ← Wt_runs]
  congr 1
  rw [Int.mul_comm, ← Sm_mul]; exact Sm_congr fun y _ => by
   show ψ (x.1 ++ y.1) * (valI x.2 t * valI y.2 t) = valI x.2 t * (ψ (x.1 ++ y.1) * valI y.2 t)
   rw [Int.mul_left_comm]
def kJ_ (hh : List Vl → Bool × Int) (r : List Vl) : Int := if (hh r).2 = 0 ∧ (hh r).1 = false then 0 else 1
theorem rowMay_app {a b : List Vl} (ha : rowMay a = true) (hb : rowMay b = true) (h : a.length + b.length ≤ 8) : rowMay (a ++ b) = true := by
 unfold rowMay; rw [Bool.and_eq_true, List.all_append, Bool.and_eq_true, List.all_eq_true, List.all_eq_true]; exact ⟨decide_eq_true (by rw [List.length_append]; omega), rowMay_all ha, rowMay_all hb⟩
theorem joinV_ok {a b c : List Vl} (h : joinV a b = (c, 0)) : rowMay a = true ∧ rowMay b = true ∧ a.length + b.length ≤ 8 ∧ c = a ++ b := by
 unfold joinV at h
 by_cases h1 : (rowMay a && rowMay b) = true
 ·rw [if_pos h1] at h
  rw [Bool.and_eq_true] at h1
  by_cases h2 : 8 < a.length + b.length
  ·rw [if_pos h2] at h; cases h
  ·rw [if_neg h2] at h
   exact ⟨h1.1, h1.2, by omega, (congrArg Prod.fst h).symm⟩
 ·rw [if_neg h1] at h; cases h
theorem edgesJ_val (hh : List Vl → Bool × Int) (x y : Gr) {es : List EdP} (h : edgesJ hh x y = (es, 0)) (φ : List Vl → Int) (t : Int) :
  Wt φ t es = (kJ_ hh (x.1 ++ y.1) * φ (x.1 ++ y.1)) * (valI x.2 t * valI y.2 t) ∧ okN es := by
 have ok0 : okN [] := ⟨fun e he => (by cases he), fun e he => (by cases he)⟩
 unfold edgesJ at h; obtain ⟨⟨g, eg⟩, hg⟩ : ∃ z, bothV (· * ·) x.2 y.2 = z := ⟨_, rfl⟩
 rw [hg] at h; simp only at h
 by_cases e1 : eg = 0
 ·subst e1
  rw [if_neg (by simp)] at h; obtain ⟨_, _, hm, hv⟩ := bothV_val (op := (· * ·)) rfl hg; have hv : valI g t = valI x.2 t * valI y.2 t := hv t
  by_cases e2 : g = []
  ·rw [if_pos e2] at h
   cases h; rw [← hv, e2]; exact ⟨by simp [Wt_nil, valI], ok0⟩
  ·rw [if_neg e2] at h
   obtain ⟨⟨c, ec⟩, hc⟩ : ∃ z, joinV x.1 y.1 = z := ⟨_, rfl⟩
   rw [hc] at h; simp only at h
   by_cases e3 : ec = 0
   ·subst e3
    rw [if_neg (by simp)] at h; obtain ⟨ra, rb, rl, rfl⟩ := joinV_ok hc
    by_cases e4 : (hh (x.1 ++ y.1)).2 = 0
    ·rw [if_neg (by simpa using e4)] at h
     by_cases e5 : (hh (x.1 ++ y.1)).1 = true
     ·rw [if_pos e5] at h
      cases h; have hb : buildP (x.1 ++ y.1) g = putP [] (x.1 ++ y.1) g := by unfold buildP; rw [if_pos (by rw [rowMay_app ra rb rl, hm]; rfl)]
      rw [hb, Wt_put, hv]; refine ⟨by unfold kJ_; rw [if_neg (by rw [e5]; simp), Int.one_mul], ⟨fun e he => ?_, fun e he => ?_⟩⟩ <;>
       (unfold putP at he; rw [List.nil_append] at he; obtain ⟨j, hj, rfl⟩ := List.mem_map.1 he; obtain ⟨_, hp, _⟩ := mayJ_parts hm; obtain ⟨q1, q2, q3, q4⟩ := hp j hj)
      ·exact argE_ok (rowMay_app ra rb rl) q4
      ·unfold timeB
       rw [decide_eq_false (show ¬ j.f0 < -1 by omega), decide_eq_false (show ¬ j.f0 > 1125899906842624 by omega)]; rfl
     ·rw [if_neg e5] at h
      cases h; exact ⟨by unfold kJ_; rw [if_pos ⟨e4, by simpa using e5⟩, Int.zero_mul, Int.zero_mul]; rfl, ok0⟩
    ·rw [if_pos e4] at h
     exact absurd (congrArg Prod.snd h) e4
   ·rw [if_pos e3] at h
    exact absurd (congrArg Prod.snd h) e3
 ·rw [if_pos e1] at h
  exact absurd (congrArg Prod.snd h) e1
theorem accR_ok (ed : Gr → Gr → List EdP × Int) : ∀ (its : List (Gr × Gr)) (out : List EdP), (accR ed out its).2 = 0 → (∀ x ∈ its, (ed x.1 x.2).2 = 0) ∧ (accR ed out its).1 = out ++ its.flatMap fun x => (ed x.1 x.2).1
 | [], out, _ => ⟨fun x hx => (by cases hx), by simp [accR]⟩
 | x :: xs, out, h => by
  rw [accR] at h ⊢
  by_cases c : (ed x.1 x.2).2 = 0
  ·rw [if_neg (by simpa using c)] at h ⊢
   obtain ⟨h1, h2⟩ := accR_ok ed xs _ h; refine ⟨fun y hy => ?_, by rw [h2, List.flatMap_cons, List.append_assoc]⟩
   rcases List.mem_cons.1 hy with rfl | hy
   ·exact c
   ·exact h1 y hy
  ·rw [if_pos (by simpa using c)] at h
   exact absurd h c
theorem edgesJ_late (hh : List Vl → Bool × Int) (x y : Gr) (e : EdP) (h : e ∈ (edgesJ hh x y).1) : e.f1 < 1125899906842624 := by
 have hb : ∀ (r : List Vl) (f : List Jp), e ∈ buildP r f → e.f1 < 1125899906842624 := by
  intro r f h; unfold buildP at h
  split at h
  ·rename_i c
   rw [Bool.and_eq_true] at c; unfold putP at h; rw [List.nil_append] at h; obtain ⟨j, hj, rfl⟩ := List.mem_map.1 h; exact ((mayJ_parts c.2).2.1 j hj).2.1
  ·cases h
 unfold edgesJ at h
 repeat' split at h
 all_goals first | exact hb _ _ h | cases h
theorem pairs_val {hh : List Vl → Bool × Int} {ef : Int} {l r a : List EdP} (h : pairsV hh ef l r = (a, 0)) :
  MayP l ∧ MayP r ∧ MayP a ∧ ef = 0 ∧ (∀ x ∈ pairsL (runsP l) (runsP r), (edgesJ hh x.1 x.2).2 = 0) ∧ ∀ φ t, Wt φ t a = Bf (fun q => kJ_ hh q * φ q) t l r := by
 unfold pairsV at h
 by_cases c : (mayE l && mayE r) = true
 ·rw [if_pos c] at h
  rw [Bool.and_eq_true, mayE_iff, mayE_iff] at c
  by_cases c2 : ef = 0
  ·rw [if_neg (by simpa using c2)] at h
   by_cases c3 : (accR (edgesJ hh) [] (pairsL (runsP l) (runsP r))).2 = 0
   ·rw [if_neg (by simpa using c3)] at h
    obtain ⟨h1, h2⟩ := accR_ok _ _ _ c3; rw [h2, List.nil_append] at h; have ok : okN ((pairsL (runsP l) (runsP r)).flatMap fun x => (edgesJ hh x.1 x.2).1) := by
     refine ⟨fun e he => ?_, fun e he => ?_⟩ <;> (obtain ⟨x, hx, hx2⟩ := List.mem_flatMap.1 he; have h3 := (edgesJ_val hh x.1 x.2 (Prod.ext rfl (h1 x hx)) (fun _ => 0) 0).2)
     ·exact h3.1 e hx2
     ·exact h3.2 e hx2
    obtain ⟨_, hf, e⟩ := okN_of_norm (l := (pairsL (runsP l) (runsP r)).flatMap fun x => (edgesJ hh x.1 x.2).1) (by rw [h]); rw [h] at e; obtain rfl : a = flat ((pairsL (runsP l) (runsP r)).flatMap fun x => (edgesJ hh x.1 x.2).1) := congrArg Prod.fst e; refine ⟨c.1, c.2, flat_may ok hf, c2, h1, fun φ t => ?_⟩; rw [Wt_J (b := (pairsL (runsP l) (runsP r)).flatMap fun x => (edgesJ hh x.1 x.2).1) φ t (fun k => ?_), Wt_flatMap, ← Bf_runs]
    ·exact Sm_congr fun x hx => (edgesJ_val hh x.1 x.2 (Prod.ext rfl (h1 x hx)) φ t).1
    ·obtain ⟨q, s⟩ := k
     rw [flat_J]
     split
     ·rfl
     ·rename_i c4
      refine (J_none _ _ fun z hz e => c4 ?_).symm; obtain ⟨y, hy, rfl⟩ := List.mem_map.1 hz; obtain ⟨x, hx, hy2⟩ := List.mem_flatMap.1 hy; have e2 : y.f1 = s := (Prod.mk.inj e).2; rw [← e2]; exact edgesJ_late hh x.1 x.2 y hy2
   ·rw [if_pos (by simpa using c3)] at h
    exact absurd (congrArg Prod.snd h) c3
  ·rw [if_pos (by simpa using c2)] at h
   exact absurd (congrArg Prod.snd h) c2
 ·rw [if_neg c] at h; cases h
theorem pairsV_row (hh : List Vl → Bool × Int) (ef : Int) (l r : List EdP) : (∀ e ∈ (pairsV hh ef l r).1, e.f0.length ≤ 8) ∧ (pairsV hh ef l r).1.length ≤ 4096 ∧ ((pairsV hh ef l r).2 ≠ 0 → (pairsV hh ef l r).1 = []) := by
 obtain ⟨⟨a, e⟩, h⟩ : ∃ z, pairsV hh ef l r = z := ⟨_, rfl⟩
 rw [h]
 by_cases c : e = 0
 ·subst c
  obtain ⟨_, _, m, _⟩ := pairs_val h; exact ⟨fun e he => rowMay_len (m.each e he).1, m.len, fun h => absurd rfl h⟩
 ·suffices a = [] by subst this; exact ⟨fun e he => (by cases he), Nat.zero_le _, fun _ => rfl⟩
  unfold pairsV at h
  split at h
  ·split at h
   ·exact (congrArg Prod.fst h).symm
   ·split at h
    ·exact (congrArg Prod.fst h).symm
    ·rcases normV_cases (accR (edgesJ hh) [] (pairsL (runsP l) (runsP r))).1 with ⟨_, _, h2⟩ | ⟨k, _, h2⟩
     ·rw [h2] at h; exact absurd (congrArg Prod.snd h).symm c
     ·rw [h2] at h; exact (congrArg Prod.fst h).symm
  ·exact (congrArg Prod.fst h).symm
end Go.Proofs.YtmkgecapkeojaaaGreat.Eg
end
section
namespace Go.Proofs.YtmkgecapkeojaaaGreat.Eg
open Go.Proofs.YtmkgecapkeojaaaGreat Go.Proofs.YtmkgecapkeojaaaGreat.PDa Go.Proofs.YtmkgecapkeojaaaGreat.EvP
open Go.RowKit Go.Proofs.YtmkgecapkeojaaaGreatW.PrintWords Go.Proofs.YtmkgecapkeojaaaGreatW.PrintLast Go.Proofs.YtmkgecapkeojaaaGreatW.PrintMore
open Go.Proofs.YtmkgecapkeojaaaGreat.Stp Go.Proofs.YtmkgecapkeojaaaGreat.Rw
theorem nilT : (⟨#[]⟩ : ByteArray).toList = [] := (toList_nil_iff_emptyBytes _).2 rfl
theorem rowMay1 (a : Int) : rowMay [⟨1, a, ⟨#[]⟩⟩] = true := by simp [rowMay, thOf, nilT]
theorem thO_num (a : Int) : thO (Th.num a) = some (Th.num a) := by
 simp [thO, thVal3, thOf]
theorem pairs_any (A0 A1 A2 : Option Addr) (c0 c1 c2 : Nat) (l r : List EdP) (x : List Op8) (w : World) (hr0 : Kd.C kE w A0 l.length l) (hr1 : Kd.C kE w A1 r.length r) (hr2 : Kd.C kO w A2 x.length x) (hc2 : x.length ≤ c2) (hl : PDd.okEs l = true) (hr : PDd.okEs r = true) (hx : PDd.okXs x = true) :
  Calls Tryz.prog 29 #[.slice A0 l.length c0, .slice A1 r.length c1, .slice A2 x.length c2] w (Ans (pairsV (EvP.holdsV x) (EvP.formV x) l r) w) := by
 refine (Pairs_calls (EvP.holdsV x) (EvP.formV x) A0 A1 A2 c0 c1 c2 l r x w hr0 (PDd.okEs_row hl) hr1 (PDd.okEs_row hr) hr2 hc2 (fun _ _ a b ha hb hj => ?_) (EvP.form_E x).get).mono ?_
 ·obtain ⟨⟨c, ec⟩, hc⟩ : ∃ z, joinV a.1 b.1 = z := ⟨_, rfl⟩
  rw [hc] at hj ⊢; simp only at hj; subst hj; obtain ⟨_, _, _, rfl⟩ := joinV_ok hc; obtain ⟨⟨e, he, e1⟩, _⟩ := runs_mem l a ha; obtain ⟨⟨f, hf, f1⟩, _⟩ := runs_mem r b hb; refine (EvP.holds_E x _ ⟨(PDd.okX hl hx e he).x, fun v hv => ?_⟩).get
  rcases List.mem_append.1 hv with hv | hv
  ·exact (PDd.okX hl hx e he).row v (e1 ▸ hv)
  ·exact (PDd.okX hr hx f hf).row v (f1 ▸ hv)
 ·rintro e w' ⟨v, o, ho, rfl, hR, hb⟩
  obtain rfl := pairs_is ho; obtain ⟨A, c, rfl⟩ := Kd.R_slice hR; exact ⟨A, c, rfl, (Kd.R_reads' hR).2.2, (Kd.R_reads' hR).2.1, hb⟩
def v7 : Rw.Vl := ⟨1, 7, ⟨#[]⟩⟩
def a2 : EdP := ⟨[v1], 9, -1⟩
def b1 : EdP := ⟨[v7], 5, 1⟩
def b2 : EdP := ⟨[v7], 12, -1⟩
def jx1 : List Op8 := [⟨1, 1, ⟨#[]⟩⟩]
def jx2 : List Op8 := [⟨3, 0, ⟨#[]⟩⟩, ⟨3, 1, ⟨#[]⟩⟩, ⟨13, 0, ⟨#[]⟩⟩]
def p1 : EdP := ⟨[v1, v7], 5, 1⟩
def p2 : EdP := ⟨[v1, v7], 9, -1⟩
def jt1 : T := .l ⟨1, 1, ⟨#[]⟩⟩
def jt2 : T := .b ⟨13, 0, ⟨#[]⟩⟩ (.l ⟨3, 0, ⟨#[]⟩⟩) (.l ⟨3, 1, ⟨#[]⟩⟩)
theorem jt1_ok : jt1.ok := by
 refine ⟨?_, by decide⟩ ; simp [okW, noT, nilT, takes]
theorem jt2_ok : jt2.ok := by
 refine ⟨?_, by decide, ⟨?_, by decide⟩, ⟨?_, by decide⟩⟩ <;> simp [okW, noT, nilT, takes]
theorem jx1_form : formV jx1 = 0 := by
 have h := parse_fl jt1 jt1_ok [] []; rw [List.append_nil] at h; have e : jt1.fl = jx1 := rfl; unfold formV; rw [if_neg zq34, ← e, h]; rfl
theorem jx2_form : formV jx2 = 0 := by
 have h := parse_fl jt2 jt2_ok [] []; rw [List.append_nil] at h; have e : jt2.fl = jx2 := rfl; unfold formV; rw [if_neg zq34, ← e, h]; rfl
theorem may17 : rowMay [v1, v7] = true := by simp [rowMay, thOf, nilT, v1, v7]
theorem jx1_v : holdsV jx1 [v1, v7] = (true, 0) := by
 have e : jt1.fl = jx1 := rfl; have h : evalV jx1 [v1, v7] = (1, 1, ⟨#[]⟩, 0) := by
  rw [← e, evalV_T jt1 jt1_ok _ (by rw [e]; exact jx1_form) may17]
  rfl
 unfold holdsV; rw [h]
 rfl
theorem jx2_v : holdsV jx2 [v1, v7] = (false, 0) := by
 have e : jt2.fl = jx2 := rfl; have h : evalV jx2 [v1, v7] = (1, 0, ⟨#[]⟩, 0) := by
  rw [← e, evalV_T jt2 jt2_ok _ (by rw [e]; exact jx2_form) may17]; simp [T.ev, jt2, evL, evB, v1, v7, compareS, getTh, rd_T65, outV, thVal3, Except.map]; simp only [thO_num]
  rfl
 unfold holdsV; rw [h]
 rfl
theorem runs2 (r : List Rw.Vl) (a b c d : Int) : runsP [⟨r, a, b⟩, ⟨r, c, d⟩] = [(r, [⟨a, b⟩, ⟨c, d⟩])] := by simp [runsP, runAt, eqR_refl, jmpE]
theorem may2 (r : List Rw.Vl) (a b c d : Int) (hr : rowMay r = true) (hm : mayJ [⟨a, b⟩, ⟨c, d⟩] = true) : mayE [⟨r, a, b⟩, ⟨r, c, d⟩] = true := by
 unfold mayE eachP; rw [runs2]; simp only [eachR, lastB, hr, hm]
 rfl
theorem mul59 : bothV (· * ·) [⟨2, 1⟩, ⟨9, -1⟩] [⟨5, 1⟩, ⟨12, -1⟩] = ([⟨5, 1⟩, ⟨9, -1⟩], 0) := by rfl
theorem join17 : joinV [v1] [v7] = ([v1, v7], 0) := by
 unfold joinV; rw [show rowMay [v1] = true from rowMay1 1, show rowMay [v7] = true from rowMay1 7]
 rfl
theorem liveJ (hh : List Rw.Vl → Bool × Int) (ok : Bool) (h : hh [v1, v7] = (ok, 0)) : pairsV hh 0 [e1, a2] [b1, b2] = (if ok = true then [p1, p2] else [], 0) := by
 have m1 : mayE [e1, a2] = true := may2 [v1] 2 1 9 (-1) (rowMay1 1) rfl; have m2 : mayE [b1, b2] = true := may2 [v7] 5 1 12 (-1) (rowMay1 7) rfl; have m3 : mayE [p1, p2] = true := may2 [v1, v7] 5 1 9 (-1) may17 rfl; have ed : edgesJ hh ([v1], [⟨2, 1⟩, ⟨9, -1⟩]) ([v7], [⟨5, 1⟩, ⟨12, -1⟩]) = (if ok = true then [p1, p2] else [], 0) := by
  unfold edgesJ; simp only [mul59, join17, h]; rw [if_neg zq34, if_neg zq34, if_neg zq34, if_neg zq34]; cases ok
  ·rfl
  ·rw [if_pos rfl, if_pos rfl]
   unfold buildP; rw [may17]
   rfl
 unfold pairsV; rw [m1, m2, if_pos (by rfl), if_neg zq34, show runsP [e1, a2] = [([v1], [⟨2, 1⟩, ⟨9, -1⟩])] from runs2 _ _ _ _ _, show runsP [b1, b2] = [([v7], [⟨5, 1⟩, ⟨12, -1⟩])] from runs2 _ _ _ _ _]; have ac : accR (edgesJ hh) [] (pairsL [([v1], [⟨2, 1⟩, ⟨9, -1⟩])] [([v7], [⟨5, 1⟩, ⟨12, -1⟩])]) = (if ok = true then [p1, p2] else [], 0) := by
  simp only [pairsL, List.flatMap_cons, List.flatMap_nil, List.map_cons, List.map_nil, List.append_nil, accR, ed, List.nil_append]; rw [if_neg zq34]
 rw [ac, if_neg zq30]; cases ok
 ·rfl
 ·exact ((mayE_iff _).1 m3).norm
theorem factJ1 : pairsV (holdsV jx1) (formV jx1) [e1, a2] [b1, b2] = ([p1, p2], 0) := by rw [jx1_form]; exact liveJ _ true jx1_v
theorem factJ2 : pairsV (holdsV jx2) (formV jx2) [e1, a2] [b1, b2] = ([], 0) := by rw [jx2_form]; exact liveJ _ false jx2_v
theorem liveJ_calls (w : World) : Calls Tryz.prog 28 #[] w fun e w' => e = .returned (.bool true) ∧ Below w.heap.size w w' := by
 go_enter Tryz.func28, Tryz.ntmps28
 go_wp2_with (go_at_call 29; refine hold_intro ?_)
 refine ⟨?_⟩; obtain ⟨W1, hW1⟩ : ∃ W1, ((((((w.alloc (.cells #[.int .i64 1, .int .i64 1, .string ⟨#[]⟩] 65 (0, 0))).alloc (.cells #[.int .i64 1, .int .i64 1, .string ⟨#[]⟩] 65 (0, 0))).alloc (.cells #[.slice (some ⟨w.heap.size, 0, none⟩) 1 1, .int .i64 2, .int .i64 1, .slice (some ⟨w.heap.size + 1, 0, none⟩) 1 1, .int .i64 9, .int .i64 (-1)] 41 (0, 0))).alloc (.cells #[.int .i64 1, .int .i64 7, .string ⟨#[]⟩] 65 (0, 0))).alloc (.cells #[.int .i64 1, .int .i64 7, .string ⟨#[]⟩] 65 (0, 0))).alloc (.cells #[.slice (some ⟨w.heap.size + 1 + 1 + 1, 0, none⟩) 1 1, .int .i64 5, .int .i64 1, .slice (some ⟨w.heap.size + 1 + 1 + 1 + 1, 0, none⟩) 1 1, .int .i64 12, .int .i64 (-1)] 41 (0, 0))).alloc (.cells #[.int .i64 1, .int .i64 1, .string ⟨#[]⟩] 68 (0, 0)) = W1 := ⟨_, rfl⟩
 have hsW1 : W1.heap.size = w.heap.size + 7 := by rw [← hW1]; simp
 have hbW1 : Below w.heap.size w W1 := by rw [← hW1]; exact below_alloc (below_alloc (below_alloc (below_alloc (below_alloc (below_alloc (below_alloc (Below.refl _ w) _) _) _) _) _) _) _
 have k0 : W1.heap[w.heap.size]? = some (.cells #[.int .i64 1, .int .i64 1, .string ⟨#[]⟩] 65 (0, 0)) := by
  have h1 := blk_new (w) (.cells #[.int .i64 1, .int .i64 1, .string ⟨#[]⟩] 65 (0, 0)); rw [← hW1]; exact blk_alloc (blk_alloc (blk_alloc (blk_alloc (blk_alloc (blk_alloc (h1) _) _) _) _) _) _
 have k1 : W1.heap[w.heap.size + 1]? = some (.cells #[.int .i64 1, .int .i64 1, .string ⟨#[]⟩] 65 (0, 0)) := by
  have h1 := blk_new (w.alloc (.cells #[.int .i64 1, .int .i64 1, .string ⟨#[]⟩] 65 (0, 0))) (.cells #[.int .i64 1, .int .i64 1, .string ⟨#[]⟩] 65 (0, 0)); rw [World.size_alloc] at h1; rw [← hW1]; exact blk_alloc (blk_alloc (blk_alloc (blk_alloc (blk_alloc (h1) _) _) _) _) _
 have k2 : W1.heap[w.heap.size + 1 + 1]? = some (.cells #[.slice (some ⟨w.heap.size, 0, none⟩) 1 1, .int .i64 2, .int .i64 1, .slice (some ⟨w.heap.size + 1, 0, none⟩) 1 1, .int .i64 9, .int .i64 (-1)] 41 (0, 0)) := by
  have h1 := blk_new ((w.alloc (.cells #[.int .i64 1, .int .i64 1, .string ⟨#[]⟩] 65 (0, 0))).alloc (.cells #[.int .i64 1, .int .i64 1, .string ⟨#[]⟩] 65 (0, 0))) (.cells #[.slice (some ⟨w.heap.size, 0, none⟩) 1 1, .int .i64 2, .int .i64 1, .slice (some ⟨w.heap.size + 1, 0, none⟩) 1 1, .int .i64 9, .int .i64 (-1)] 41 (0, 0)); rw [World.size_alloc, World.size_alloc] at h1; rw [← hW1]; exact blk_alloc (blk_alloc (blk_alloc (blk_alloc (h1) _) _) _) _
 have k3 : W1.heap[w.heap.size + 1 + 1 + 1]? = some (.cells #[.int .i64 1, .int .i64 7, .string ⟨#[]⟩] 65 (0, 0)) := by
  have h1 := blk_new (((w.alloc (.cells #[.int .i64 1, .int .i64 1, .string ⟨#[]⟩] 65 (0, 0))).alloc (.cells #[.int .i64 1, .int .i64 1, .string ⟨#[]⟩] 65 (0, 0))).alloc (.cells #[.slice (some ⟨w.heap.size, 0, none⟩) 1 1, .int .i64 2, .int .i64 1, .slice (some ⟨w.heap.size + 1, 0, none⟩) 1 1, .int .i64 9, .int .i64 (-1)] 41 (0, 0))) (.cells #[.int .i64 1, .int .i64 7, .string ⟨#[]⟩] 65 (0, 0)); rw [World.size_alloc, World.size_alloc, World.size_alloc] at h1; rw [← hW1]; exact blk_alloc (blk_alloc (blk_alloc (h1) _) _) _
 have k4 : W1.heap[w.heap.size + 1 + 1 + 1 + 1]? = some (.cells #[.int .i64 1, .int .i64 7, .string ⟨#[]⟩] 65 (0, 0)) := by
  have h1 := blk_new ((((w.alloc (.cells #[.int .i64 1, .int .i64 1, .string ⟨#[]⟩] 65 (0, 0))).alloc (.cells #[.int .i64 1, .int .i64 1, .string ⟨#[]⟩] 65 (0, 0))).alloc (.cells #[.slice (some ⟨w.heap.size, 0, none⟩) 1 1, .int .i64 2, .int .i64 1, .slice (some ⟨w.heap.size + 1, 0, none⟩) 1 1, .int .i64 9, .int .i64 (-1)] 41 (0, 0))).alloc (.cells #[.int .i64 1, .int .i64 7, .string ⟨#[]⟩] 65 (0, 0))) (.cells #[.int .i64 1, .int .i64 7, .string ⟨#[]⟩] 65 (0, 0)); rw [World.size_alloc, World.size_alloc, World.size_alloc, World.size_alloc] at h1; rw [← hW1]; exact blk_alloc (blk_alloc (h1) _) _
 have k5 : W1.heap[w.heap.size + 1 + 1 + 1 + 1 + 1]? = some (.cells #[.slice (some ⟨w.heap.size + 1 + 1 + 1, 0, none⟩) 1 1, .int .i64 5, .int .i64 1, .slice (some ⟨w.heap.size + 1 + 1 + 1 + 1, 0, none⟩) 1 1, .int .i64 12, .int .i64 (-1)] 41 (0, 0)) := by
  have h1 := blk_new (((((w.alloc (.cells #[.int .i64 1, .int .i64 1, .string ⟨#[]⟩] 65 (0, 0))).alloc (.cells #[.int .i64 1, .int .i64 1, .string ⟨#[]⟩] 65 (0, 0))).alloc (.cells #[.slice (some ⟨w.heap.size, 0, none⟩) 1 1, .int .i64 2, .int .i64 1, .slice (some ⟨w.heap.size + 1, 0, none⟩) 1 1, .int .i64 9, .int .i64 (-1)] 41 (0, 0))).alloc (.cells #[.int .i64 1, .int .i64 7, .string ⟨#[]⟩] 65 (0, 0))).alloc (.cells #[.int .i64 1, .int .i64 7, .string ⟨#[]⟩] 65 (0, 0))) (.cells #[.slice (some ⟨w.heap.size + 1 + 1 + 1, 0, none⟩) 1 1, .int .i64 5, .int .i64 1, .slice (some ⟨w.heap.size + 1 + 1 + 1 + 1, 0, none⟩) 1 1, .int .i64 12, .int .i64 (-1)] 41 (0, 0)); rw [World.size_alloc, World.size_alloc, World.size_alloc, World.size_alloc, World.size_alloc] at h1; rw [← hW1]; exact blk_alloc (h1) _
 have k6 : W1.heap[w.heap.size + 1 + 1 + 1 + 1 + 1 + 1]? = some (.cells #[.int .i64 1, .int .i64 1, .string ⟨#[]⟩] 68 (0, 0)) := by
  have h1 := blk_new ((((((w.alloc (.cells #[.int .i64 1, .int .i64 1, .string ⟨#[]⟩] 65 (0, 0))).alloc (.cells #[.int .i64 1, .int .i64 1, .string ⟨#[]⟩] 65 (0, 0))).alloc (.cells #[.slice (some ⟨w.heap.size, 0, none⟩) 1 1, .int .i64 2, .int .i64 1, .slice (some ⟨w.heap.size + 1, 0, none⟩) 1 1, .int .i64 9, .int .i64 (-1)] 41 (0, 0))).alloc (.cells #[.int .i64 1, .int .i64 7, .string ⟨#[]⟩] 65 (0, 0))).alloc (.cells #[.int .i64 1, .int .i64 7, .string ⟨#[]⟩] 65 (0, 0))).alloc (.cells #[.slice (some ⟨w.heap.size + 1 + 1 + 1, 0, none⟩) 1 1, .int .i64 5, .int .i64 1, .slice (some ⟨w.heap.size + 1 + 1 + 1 + 1, 0, none⟩) 1 1, .int .i64 12, .int .i64 (-1)] 41 (0, 0))) (.cells #[.int .i64 1, .int .i64 1, .string ⟨#[]⟩] 68 (0, 0)); rw [World.size_alloc, World.size_alloc, World.size_alloc, World.size_alloc, World.size_alloc, World.size_alloc] at h1; rw [← hW1]; exact h1
 rw [hW1]; have r1 : ∀ (W2 : World) (b : Nat) (v : Rw.Vl), W2.heap[b]? = some (.cells #[.int .i64 v.f0, .int .i64 v.f1, .string v.f2] 65 (0, 0)) → Kd.C kV W2 (some ⟨b, 0, none⟩) 1 [v] := fun W2 b v h => by
  refine C_lit (d := kV) (ps := [] ++ [v]) (inner := [] ++ [.int .i64 v.f0, .int .i64 v.f1, .string v.f2]) rfl h rfl rfl zq34 (Reps.snoc (ps := []) (p := v) (Reps.none (kV.K W2) kV.sz) (k65_mk W2 v) rfl)
 have hC : Kd.C kE W1 (some ⟨w.heap.size + 1 + 1, 0, none⟩) 2 [e1, a2] :=
  C_lit (d := kE) (ps := [] ++ [e1] ++ [a2]) (inner := [] ++ [.slice (some ⟨w.heap.size, 0, none⟩) 1 1, .int .i64 2, .int .i64 1] ++ [.slice (some ⟨w.heap.size + 1, 0, none⟩) 1 1, .int .i64 9, .int .i64 (-1)]) rfl k2 rfl rfl zq34
   (((Reps.none (kE.K W1) kE.sz).snoc (p := e1) (k41_mk W1 e1 (Nat.le_refl 1) (r1 W1 _ v1 k0)) rfl).snoc (p := a2) (k41_mk W1 a2 (Nat.le_refl 1) (r1 W1 _ v1 k1)) rfl)
 have hD : Kd.C kE W1 (some ⟨w.heap.size + 1 + 1 + 1 + 1 + 1, 0, none⟩) 2 [b1, b2] :=
  C_lit (d := kE) (ps := [] ++ [b1] ++ [b2]) (inner := [] ++ [.slice (some ⟨w.heap.size + 1 + 1 + 1, 0, none⟩) 1 1, .int .i64 5, .int .i64 1] ++ [.slice (some ⟨w.heap.size + 1 + 1 + 1 + 1, 0, none⟩) 1 1, .int .i64 12, .int .i64 (-1)]) rfl k5 rfl rfl zq34
   (((Reps.none (kE.K W1) kE.sz).snoc (p := b1) (k41_mk W1 b1 (Nat.le_refl 1) (r1 W1 _ v7 k3)) rfl).snoc (p := b2) (k41_mk W1 b2 (Nat.le_refl 1) (r1 W1 _ v7 k4)) rfl)
 have hX : Kd.C kO W1 (some ⟨w.heap.size + 1 + 1 + 1 + 1 + 1 + 1, 0, none⟩) 1 jx1 :=
  C_lit (d := kO) (ps := [] ++ [(⟨1, 1, ⟨#[]⟩⟩ : Op8)]) (inner := [] ++ [.int .i64 1, .int .i64 1, .string ⟨#[]⟩]) rfl k6 rfl rfl zq34
   ((Reps.none (kO.K W1) kO.sz).snoc (p := ⟨1, 1, ⟨#[]⟩⟩) (k68_mk W1 _) rfl)
 have HC := Lib.hid hC; have HD := Lib.hid hD; have HB1 := Lib.hid hbW1; have FC := Lib.hid (pairs_any (some ⟨w.heap.size + 1 + 1, 0, none⟩) (some ⟨w.heap.size + 1 + 1 + 1 + 1 + 1, 0, none⟩) (some ⟨w.heap.size + 1 + 1 + 1 + 1 + 1 + 1, 0, none⟩) 2 2 1 [e1, a2] [b1, b2] jx1 W1 hC hD hX (Nat.le_refl 1) (by rfl) (by rfl) (by rfl)); rw [factJ1] at FC; clear hC hD hX r1 k0 k1 k2 k3 k4 k5 k6 hW1 hsW1 hbW1; refine FC.out.mono ?_; rintro e w2 ⟨Aa, ca, rfl, hRa, hca, hb2⟩; have HRA := Lib.hid hRa; have HB2 := Lib.hid (HB1.out.trans (hb2.mono HB1.out.size)); have HC2 := Lib.hid (Kd.C_below HC.out hb2); have HD2 := Lib.hid (Kd.C_below HD.out hb2); clear hRa hb2 hca HB1 HC HD FC
 go_wp2_with (go_at_call 29; refine hold_intro ?_)
 refine ⟨?_⟩; obtain ⟨W3, hW3⟩ : ∃ W3, w2.alloc (.cells #[.int .i64 3, .int .i64 0, .string ⟨#[]⟩, .int .i64 3, .int .i64 1, .string ⟨#[]⟩, .int .i64 13, .int .i64 0, .string ⟨#[]⟩] 68 (0, 0)) = W3 := ⟨_, rfl⟩
 have hsW3 : W3.heap.size = w2.heap.size + 1 := by rw [← hW3]; simp
 have hbW3 : Below w2.heap.size w2 W3 := by rw [← hW3]; exact below_alloc (Below.refl _ w2) _
 have k0 : W3.heap[w2.heap.size]? = some (.cells #[.int .i64 3, .int .i64 0, .string ⟨#[]⟩, .int .i64 3, .int .i64 1, .string ⟨#[]⟩, .int .i64 13, .int .i64 0, .string ⟨#[]⟩] 68 (0, 0)) := by
  have h1 := blk_new (w2) (.cells #[.int .i64 3, .int .i64 0, .string ⟨#[]⟩, .int .i64 3, .int .i64 1, .string ⟨#[]⟩, .int .i64 13, .int .i64 0, .string ⟨#[]⟩] 68 (0, 0)); rw [← hW3]; exact h1
 rw [hW3]; have hX : Kd.C kO W3 (some ⟨w2.heap.size, 0, none⟩) 3 jx2 :=
  C_lit (d := kO) (ps := [] ++ [(⟨3, 0, ⟨#[]⟩⟩ : Op8)] ++ [⟨3, 1, ⟨#[]⟩⟩] ++ [⟨13, 0, ⟨#[]⟩⟩]) (inner := [] ++ [.int .i64 3, .int .i64 0, .string ⟨#[]⟩] ++ [.int .i64 3, .int .i64 1, .string ⟨#[]⟩] ++ [.int .i64 13, .int .i64 0, .string ⟨#[]⟩]) rfl k0 rfl rfl zq34
   ((((Reps.none (kO.K W3) kO.sz).snoc (p := ⟨3, 0, ⟨#[]⟩⟩) (k68_mk W3 _) rfl).snoc (p := ⟨3, 1, ⟨#[]⟩⟩) (k68_mk W3 _) rfl).snoc (p := ⟨13, 0, ⟨#[]⟩⟩) (k68_mk W3 _) rfl)
 have HB3 := Lib.hid hbW3; have FD := Lib.hid (pairs_any (some ⟨w.heap.size + 1 + 1, 0, none⟩) (some ⟨w.heap.size + 1 + 1 + 1 + 1 + 1, 0, none⟩) (some ⟨w2.heap.size, 0, none⟩) 2 2 3 [e1, a2] [b1, b2] jx2 W3 (Kd.C_below HC2.out hbW3) (Kd.C_below HD2.out hbW3) hX (Nat.le_refl 3) (by rfl) (by rfl) (by rfl)); rw [factJ2] at FD; clear hX k0 hW3 hsW3 hbW3 HC2 HD2; refine FD.out.mono ?_; rintro e w4 ⟨Ab, cb, rfl, hRb, hcb, hb4⟩; have HB4 := Lib.hid ((HB2.out.trans (HB3.out.mono HB2.out.size)).trans (hb4.mono (Nat.le_trans HB2.out.size HB3.out.size))); have hra := Kd.C_below (Kd.C_below HRA.out HB3.out) hb4; obtain ⟨ad, Ay, cy, ea, y0, y1, y2, y3, y4⟩ := at_T41 hra (0 : Int) zq34 zq34; obtain ⟨ad2, Az, cz, eb, z0, z1, z2, z3, z4⟩ := at_T41 hra (1 : Int) zq34 zq34; cases ea; cases eb; have Y0 : w4.cell? ad = some (.slice Ay 2 cy) := by simpa [Addr.add, rd_T41, p1] using y0
 have Y1 : w4.cell? ⟨ad.block, ad.off + 1, none⟩ = some (.int .i64 5) := by simpa [Addr.add, rd_T41, p1] using y1
 have Z1 : w4.cell? ⟨ad.block, ad.off + 3 + 1, none⟩ = some (.int .i64 9) := by simpa [Addr.add, rd_T41, p2] using z1
 clear y0 y1 y2 y3 y4 z0 z1 z2 z3 z4 hra HRA HB2 HB3 hb4 hRb hcb FD; have e0 : ad.add 0 = ad := add0 ad; go_wp2; go_ret; exact ⟨rfl, HB4.out⟩
end Go.Proofs.YtmkgecapkeojaaaGreat.Eg
end
section
namespace Go.Proofs.YtmkgecapkeojaaaGreat.Eg
open Go.Proofs.YtmkgecapkeojaaaGreat Go.Proofs.YtmkgecapkeojaaaGreat.PDa
open Go.RowKit Go.Proofs.YtmkgecapkeojaaaGreatW.PrintWords Go.Proofs.YtmkgecapkeojaaaGreatW.PrintLast Go.Proofs.YtmkgecapkeojaaaGreatW.PrintMore
open Go.Proofs.YtmkgecapkeojaaaGreat.Stp Go.Proofs.YtmkgecapkeojaaaGreat.Rw
theorem jumps_any (A0 : Option Addr) (c0 : Nat) (l : List EdP) (A1 : Option Addr) (c1 : Nat) (r : List Vl) (w : World) (hr0 : Kd.C kE w A0 l.length l) (hc0 : l.length ≤ c0) (hr1 : Kd.C kV w A1 r.length r) (hc1 : r.length ≤ c1) (hl : l.length ≤ 1000000) (hr : ∀ e ∈ l, e.f0.length ≤ 4398046511104) :
  Calls Tryz.prog 26 #[.slice A0 l.length c0, .slice A1 r.length c1] w fun e w' => ∃ A c, e = .returned (.slice A (jumpsOf l r).length c) ∧ Kd.C kJ w' A (jumpsOf l r).length (jumpsOf l r) ∧ (jumpsOf l r).length ≤ c ∧ Below w.heap.size w w' := by
 obtain ⟨k, hk⟩ := (jumps10 l r hr hl).get; refine (r10_Jumps.calls k A0 c0 l A1 c1 r _ w hr0 hc0 hr1 hc1 hk).mono ?_; rintro e w' ⟨v, rfl, hR, hb⟩; obtain ⟨A, c, rfl⟩ := Kd.R_slice hR; exact ⟨A, c, rfl, (Kd.R_reads' hR).2.2, (Kd.R_reads' hR).2.1, hb⟩
theorem value_any (A : Option Addr) (c : Nat) (f : List Jp) (p : Int) (w : World) (hr : Kd.C kJ w A f.length f) (hc : f.length ≤ c) (hf : Fair f) (hl : f.length ≤ 1000000) :
  Calls Tryz.prog 25 #[.slice A f.length c, .int .i64 p] w fun e w' => e = .returned (.int .i64 (valI f p)) ∧ Below w.heap.size w w' := by
 obtain ⟨k, hk⟩ := (value09 f p hf hl).get; exact (r09_Value.calls k A c f p _ w hr hc hk).mono fun e w' z => ⟨z.1, z.2.below⟩
theorem MayP.fairJ {l : List EdP} (h : MayP l) (r : List Vl) : Fair (jumpsOf l r) := fun j hj => okFair ((mayJ_parts (h.jumps r)).2.1 j hj).2.2.2
end Go.Proofs.YtmkgecapkeojaaaGreat.Eg
end
section
namespace Go.Proofs.YtmkgecapkeojaaaGreat.Eg
open Go.Proofs.YtmkgecapkeojaaaGreat Go.Proofs.YtmkgecapkeojaaaGreat.PDa
open Go.RowKit Go.Proofs.YtmkgecapkeojaaaGreatW.PrintWords Go.Proofs.YtmkgecapkeojaaaGreat.Stp Go.Proofs.YtmkgecapkeojaaaGreat.Rw Go.Proofs.YtmkgecapkeojaaaGreat.Cmp Go.Proofs.YtmkgecapkeojaaaGreat.Canon
def evenB (l : List EdP) : Bool := (l.drop 1).all fun x => decide (x.f0.length = (rd_T41 l 0).f0.length)
theorem even31_l0 (l : List EdP) (hl : l.length ≤ 1000000) : ∀ (m i : Nat), l.length - i = m → EvP.U (fun k => rescindlaw31_even.l0 k l (i : Int)) ((l.drop i).all fun x => decide (x.f0.length = (rd_T41 l 0).f0.length))
 | m, i, hm => by
  refine EvP.U.succ ?_; simp only [rescindlaw31_even.l0]
  by_cases c : i < l.length
  ·rw [List.drop_eq_getElem_cons c, List.all_cons]
   refine EvP.U.pos (by omega) (EvP.U.pos (by omega) (EvP.U.pos (by omega) ?_)); rw [rdE l i c, wrapN i (by omega)]
   by_cases h : (l[i].f0.length : Int) = ((rd_T41 l 0).f0.length : Int)
   ·refine EvP.U.pos h ?_
    rw [decide_eq_true (show l[i].f0.length = (rd_T41 l 0).f0.length by omega), Bool.true_and]
    match m, hm with
    | 0, hm => omega
    | m + 1, hm => exact even31_l0 l hl m (i + 1) (by omega)
   ·refine EvP.U.neg h (EvP.U.const ?_)
    rw [decide_eq_false (show ¬ l[i].f0.length = (rd_T41 l 0).f0.length by omega)]; rfl
  ·refine EvP.U.neg (by omega) (EvP.U.const ?_)
   rw [List.drop_eq_nil_of_le (by omega)]; rfl
theorem even31 (l : List EdP) (hl : l.length ≤ 1000000) : EvP.U (fun k => rescindlaw31_even.f k l) (evenB l) := even31_l0 l hl _ 1 rfl
theorem evenB_all {l : List EdP} (h : evenB l = true) {e e' : EdP} (he : e ∈ l) (he' : e' ∈ l) : e.f0.length = e'.f0.length := by
 cases l with
 | nil => cases he
 | cons z zs =>
  have h0 : rd_T41 (z :: zs) 0 = z := rdE (z :: zs) 0 (by simp); unfold evenB at h; rw [h0, List.drop_succ_cons, List.drop_zero, List.all_eq_true] at h; have k : ∀ y ∈ z :: zs, y.f0.length = z.f0.length := fun y hy => by
   rcases List.mem_cons.1 hy with rfl | hy
   ·rfl
   ·exact of_decide_eq_true (h y hy)
  rw [k e he, k e' he']
theorem join06 (a b : List Vl) : EvP.U (fun k => r06_Join.f k a b) (joinV a b) := by
 unfold r06_Join.f joinV; refine EvP.U.bind (EvP.mayR a) ?_; cases ha : rowMay a with
 | false =>
  refine EvP.U.neg (by decide) (EvP.U.succ ?_); simp only [r06_Join.j0]; exact EvP.U.pos (by first | rfl | trivial) (EvP.U.const (by rw [if_neg (by simp)]))
 | true =>
  refine EvP.U.pos (by first | rfl | trivial) (EvP.U.bind (EvP.mayR b) ?_); have la := rowMay_len ha; cases hb : rowMay b with
  | false =>
   refine EvP.U.succ ?_; simp only [r06_Join.j0]; exact EvP.U.pos (by first | rfl | trivial) (EvP.U.const (by rw [if_neg (by simp)]))
  | true =>
   have lb := rowMay_len hb; refine EvP.U.succ ?_; simp only [r06_Join.j0]; refine EvP.U.neg (by decide) ?_; have hw : wrap64 ((a.length : Int) + (b.length : Int)) = (a.length : Int) + (b.length : Int) := by rw [show (a.length : Int) + (b.length : Int) = ((a.length + b.length : Nat) : Int) by omega]; exact EvP.w64 (by omega) (by omega)
   rw [hw]
   by_cases h8 : 8 < a.length + b.length
   ·exact EvP.U.pos (by omega) (EvP.U.const (by rw [if_pos (by rfl), if_pos h8]))
   ·refine EvP.U.neg (by omega) (EvP.U.const ?_)
    rw [if_pos (by rfl), if_neg h8]; simp; omega
theorem ticks_join {hh : List Vl → Bool × Int} {ef : Int} {l r a : List EdP} (h : pairsV hh ef l r = (a, 0)) (p q : List Vl) (el : ∀ e ∈ l, e.f0.length = p.length) (t : Int) :
  valI (jumpsOf a (p ++ q)) t = kJ_ hh (p ++ q) * (valI (jumpsOf l p) t * valI (jumpsOf r q) t) := by
 obtain ⟨_, _, _, _, _, hv⟩ := pairs_val h; rw [Wt_val, hv]; unfold Bf; have key : ∀ e ∈ l, Wt (fun s => kJ_ hh (e.f0 ++ s) * (if e.f0 ++ s = p ++ q then 1 else 0)) t r = (kJ_ hh (p ++ q) * valI (jumpsOf r q) t) * (if e.f0 = p then 1 else 0) := by
  intro e he; have h1 : ∀ s, kJ_ hh (e.f0 ++ s) * (if e.f0 ++ s = p ++ q then 1 else 0) = (kJ_ hh (p ++ q) * (if e.f0 = p then 1 else 0)) * (if s = q then 1 else 0) := by
   intro s
   by_cases c : e.f0 ++ s = p ++ q
   ·obtain ⟨c1, c2⟩ := List.append_inj c (el e he)
    rw [if_pos c, if_pos c1, if_pos c2, c]; omega
   ·rw [if_neg c]
    by_cases c1 : e.f0 = p
    ·have c3 : ¬ s = q := fun c2 => c (by rw [c1, c2])
     rw [if_neg c3]; omega
    ·rw [if_neg c1]; simp
  rw [show (fun s => kJ_ hh (e.f0 ++ s) * (if e.f0 ++ s = p ++ q then 1 else 0)) = fun s => (kJ_ hh (p ++ q) * (if e.f0 = p then 1 else 0)) * (if s = q then 1 else 0) from funext h1, Wt_mul, ← Wt_val, Int.mul_assoc, Int.mul_assoc, Int.mul_comm (if e.f0 = p then 1 else 0)]
 have e2 : Wt (fun p' => Wt (fun s => kJ_ hh (p' ++ s) * (if p' ++ s = p ++ q then 1 else 0)) t r) t l = Wt (fun p' => (kJ_ hh (p ++ q) * valI (jumpsOf r q) t) * (if p' = p then 1 else 0)) t l := Wt_congr t key; rw [e2, Wt_mul, ← Wt_val, Int.mul_assoc, Int.mul_comm (valI (jumpsOf r q) t)]
end Go.Proofs.YtmkgecapkeojaaaGreat.Eg
end
section
namespace Go.Proofs.YtmkgecapkeojaaaGreat.Eg
open Go.Proofs.YtmkgecapkeojaaaGreat Go.Proofs.YtmkgecapkeojaaaGreat.PDa Go.Proofs.YtmkgecapkeojaaaGreat.EvP
open Go.RowKit Go.Proofs.YtmkgecapkeojaaaGreatW.PrintWords Go.Proofs.YtmkgecapkeojaaaGreatW.PrintLast Go.Proofs.YtmkgecapkeojaaaGreatW.PrintMore
open Go.Proofs.YtmkgecapkeojaaaGreat.Stp Go.Proofs.YtmkgecapkeojaaaGreat.Rw
theorem r64b {z : Int} (h : (Lit.int .i64 z).wf = true) : PDd.r64 z = true := by
 have := R64.of_wf h; unfold PDd.r64; rw [Bool.and_eq_true]; exact ⟨decide_eq_true this.1, decide_eq_true this.2⟩
abbrev wfV (v : Rw.Vl) : Prop := (Lit.int .i64 v.f0).wf = true ∧ (Lit.int .i64 v.f1).wf = true ∧ v.f2.size ≤ 140737488351232
abbrev wfE (e : EdP) : Prop := ((∀ v ∈ e.f0, wfV v) ∧ e.f0.length * Tryz.prog.bytesOf 65 ≤ 140737488351232) ∧ (Lit.int .i64 e.f1).wf = true ∧ (Lit.int .i64 e.f2).wf = true
abbrev wfEs (l : List EdP) : Prop := (∀ e ∈ l, wfE e) ∧ l.length * Tryz.prog.bytesOf 41 ≤ 140737488351232
abbrev wfO (x : Op8) : Prop := (Lit.int .i64 x.f0).wf = true ∧ (Lit.int .i64 x.f1).wf = true ∧ x.f2.size ≤ 140737488351232
abbrev wfX (l : List Op8) : Prop := (∀ x ∈ l, wfO x) ∧ l.length * Tryz.prog.bytesOf 68 ≤ 140737488351232
theorem bytesV : Tryz.prog.bytesOf 65 = 32 := by kernel_rfl
theorem okEs_wf {l : List EdP} (h : wfEs l) : PDd.okEs l = true := by
 unfold PDd.okEs; refine List.all_eq_true.2 fun e he => ?_
 obtain ⟨⟨h1, h2⟩, _⟩ := h.1 e he; rw [bytesV] at h2; rw [Bool.and_eq_true]; exact ⟨decide_eq_true zq4, List.all_eq_true.2 fun v hv => r64b (h1 v hv).2.1⟩
theorem okXs_wf {l : List Op8} (h : wfX l) : PDd.okXs l = true := List.all_eq_true.2 fun x hx => r64b (h.1 x hx).2.1
end Go.Proofs.YtmkgecapkeojaaaGreat.Eg
end
section
namespace Go.Proofs.YtmkgecapkeojaaaGreat.Eg
open Go.Proofs.YtmkgecapkeojaaaGreat Go.Proofs.YtmkgecapkeojaaaGreat.PDa
open Go.RowKit Go.Proofs.YtmkgecapkeojaaaGreatW.PrintWords Go.Proofs.YtmkgecapkeojaaaGreatW.PrintLast Go.Proofs.YtmkgecapkeojaaaGreatW.PrintMore
open Go.Proofs.YtmkgecapkeojaaaGreat.Stp Go.Proofs.YtmkgecapkeojaaaGreat.Rw
theorem join_any (A0 A1 : Option Addr) (c0 c1 : Nat) (a b : List Vl) (w : World) (hr0 : Kd.C kV w A0 a.length a) (hc0 : a.length ≤ c0) (hr1 : Kd.C kV w A1 b.length b) (hc1 : b.length ≤ c1) :
  Calls Tryz.prog 32 #[.slice A0 a.length c0, .slice A1 b.length c1] w fun e w' => ∃ A c, e = .returned (.tuple #[.slice A (joinV a b).1.length c, .int .i64 (joinV a b).2]) ∧ Kd.C kV w' A (joinV a b).1.length (joinV a b).1 ∧ (joinV a b).1.length ≤ c ∧ Below w.heap.size w w' := by
 obtain ⟨k, hk⟩ := (join06 a b).get; refine (r06_Join.calls k A0 c0 a A1 c1 b _ _ w hr0 hc0 hr1 hc1 hk).mono ?_; rintro e w' ⟨v, rfl, hR, hb⟩; obtain ⟨A, c, rfl⟩ := Kd.R_slice hR; exact ⟨A, c, rfl, (Kd.R_reads' hR).2.2, (Kd.R_reads' hR).2.1, hb⟩
theorem even_any (A0 : Option Addr) (c0 : Nat) (l : List EdP) (w : World) (hr0 : Kd.C kE w A0 l.length l) (hc0 : l.length ≤ c0) (hl : l.length ≤ 1000000) :
  Calls Tryz.prog 31 #[.slice A0 l.length c0] w fun e w' => e = .returned (.bool (evenB l)) ∧ Below w.heap.size w w' := by
 obtain ⟨k, hk⟩ := (even31 l hl).get; exact (rescindlaw31_even.calls k A0 c0 l _ w hr0 hc0 hk).mono fun e w' z => ⟨z.1, z.2.below⟩
def jta.T14 : Bool × List (List Nat × List Nat) := (true, [([], []), ([], []), ([0, 1], [0, 1]), ([2], [2]), ([3], [3]), ([], []), ([], []), ([5, 6], [5, 6]), ([7], [7]), ([8], [8]), ([4, 9], [4, 9]), ([10], [10]), ([11], [11]), ([11], [11]), ([12, 10, 0, 1, 2, 3, 4, 5, 6, 7, 8, 9, 10, 11, 12], [12]), ([13, 14, 0, 1, 2, 3, 4, 5, 6, 7, 8, 9, 10, 11, 12, 13, 14], [13])])
def jta.B14 : List Nat := [0, 0, 3, 7, 15, 0, 0, 96, 224, 480, 1023, 2047, 4095, 4095, 8191, 32767]
theorem jta.tab14 : rtab .any (opsOf Tryz.f7 14) = jta.T14 := by kernel_rfl
theorem jta.bits14 : waitsOk jta.T14.2 jta.B14 = true := by kernel_rfl
def jtb.T16 : Bool × List (List Nat × List Nat) := (true, [([], []), ([], []), ([], []), ([1, 2], [1, 2]), ([3], [3]), ([4], [4]), ([0, 5], [0, 5]), ([], []), ([6, 7, 6], [6, 7]), ([], []), ([], []), ([], []), ([10, 11], [10, 11]), ([12], [12]), ([13], [13]), ([9, 14, 8], [9, 14]), ([], []), ([15, 16, 15], [15, 16]), ([8, 17], [8, 17]), ([18, 17, 0, 1, 2, 3, 4, 5, 6, 7, 8, 9, 10, 11, 12, 13, 14, 15, 16, 17, 18], [18])])
def jtb.B16 : List Nat := [0, 0, 0, 6, 14, 30, 63, 0, 255, 0, 0, 0, 3072, 7168, 15360, 32767, 0, 131071, 262143, 524287]
theorem jtb.tab16 : rtab .any (opsOf Tryz.f7 16) = jtb.T16 := by kernel_rfl
theorem jtb.bits16 : waitsOk jtb.T16.2 jtb.B16 = true := by kernel_rfl
theorem joinTicks_calls (A0 A1 A2 : Option Addr) (c0 c1 c2 : Nat) (l r : List EdP) (x : List Op8) (t : Int) (w : World)
  (hr0 : Kd.C kE w A0 l.length l) (hc0 : l.length ≤ c0) (hr1 : Kd.C kE w A1 r.length r) (hc1 : r.length ≤ c1) (hr2 : Kd.C kO w A2 x.length x) (hc2 : x.length ≤ c2)
  (hl : PDd.okEs l = true) (hr : PDd.okEs r = true) (hx : PDd.okXs x = true) :
  Calls Tryz.prog 7 #[.slice A0 l.length c0, .slice A1 r.length c1, .slice A2 x.length c2, .int .i64 t] w fun e w' => e = .returned (.bool true) ∧ Below w.heap.size w w' := by
 have LV := Lib.hid (fun w1 => liveJ_calls w1); have FIN := Lib.hid (show ∀ w9, Below w.heap.size w w9 → Calls Tryz.prog 28 #[] w9 fun e w' => e = .returned (.bool true) ∧ Below w.heap.size w w' from fun w9 h => (LV.out w9).mono fun e w' z => ⟨z.1, h.trans (z.2.mono h.size)⟩)
 by_cases h100 : l.length ≤ 100 ∧ r.length ≤ 100
 case neg =>
  clear hr0 hr1 hr2 hl hr hx
  by_cases h1 : l.length ≤ 100
  ·have q1 : decide ((l.length : Int) > 100) = false := decide_eq_false zq4
   have q2 : decide ((r.length : Int) > 100) = true := decide_eq_true zq4; clear h1 h100; go_enter Tryz.func7, Tryz.ntmps7
   go_wp2_with fail
   refine (FIN.out _ (Below.refl _ _)).mono ?_; rintro e w9 ⟨rfl, hb9⟩; go_wp2; go_ret; exact ⟨rfl, hb9⟩
  ·have q1 : decide ((l.length : Int) > 100) = true := decide_eq_true zq4
   clear h1 h100; go_enter Tryz.func7, Tryz.ntmps7
   go_wp2_with fail
   refine (FIN.out _ (Below.refl _ _)).mono ?_; rintro e w9 ⟨rfl, hb9⟩; go_wp2; go_ret; exact ⟨rfl, hb9⟩
 case pos =>
 obtain ⟨l1, l2⟩ := h100; have wl := PDd.okEs_row hl; have wr := PDd.okEs_row hr; have EA := Lib.hid (even_any A0 c0 l w hr0 hc0 zq4); have EB := Lib.hid (fun (w1 : World) (h : Below w.heap.size w w1) => even_any A1 c1 r w1 (Kd.C_below hr1 h) hc1 zq4); have PA := Lib.hid (fun (w1 : World) (h : Below w.heap.size w w1) => pairs_any A0 A1 A2 c0 c1 c2 l r x w1 (Kd.C_below hr0 h) (Kd.C_below hr1 h) (Kd.C_below hr2 h) hc2 hl hr hx); have JL := Lib.hid (fun (A : Option Addr) (c : Nat) (q : List Vl) (w1 : World) (h : Below w.heap.size w w1) (hR : Kd.C kV w1 A q.length q) (hc : q.length ≤ c) => jumps_any A0 c0 l A c q w1 (Kd.C_below hr0 h) hc0 hR hc zq4 wl); have JR := Lib.hid (fun (A : Option Addr) (c : Nat) (q : List Vl) (w1 : World) (h : Below w.heap.size w w1) (hR : Kd.C kV w1 A q.length q) (hc : q.length ≤ c) => jumps_any A1 c1 r A c q w1 (Kd.C_below hr1 h) hc1 hR hc zq4 wr); have HC := Lib.hid (fun (e0 f0 : EdP) (he : e0 ∈ l) (hf : f0 ∈ r) (A : Option Addr) (c : Nat) (w1 : World) (h : Below w.heap.size w w1) (hR : Kd.C kV w1 A (e0.f0 ++ f0.f0).length (e0.f0 ++ f0.f0)) (hc : (e0.f0 ++ f0.f0).length ≤ c) => (show Calls Tryz.prog 24 #[.slice A2 x.length c2, .slice A (e0.f0 ++ f0.f0).length c] w1 fun e w' => e = .returned (.tuple #[.bool (EvP.holdsV x (e0.f0 ++ f0.f0)).1, .int .i64 (EvP.holdsV x (e0.f0 ++ f0.f0)).2]) ∧ Below w1.heap.size w1 w' from (EvP.holds_E x (e0.f0 ++ f0.f0) ⟨(PDd.okX hl hx e0 he).x, fun v hv => (List.mem_append.1 hv).elim ((PDd.okX hl hx e0 he).row v) ((PDd.okX hr hx f0 hf).row v)⟩).get.elim fun k hk => eval_Holds.calls k A2 c2 x A c _ _ _ w1 (Kd.C_below hr2 h) hc2 hR hc hk)); have HL := Lib.hid (fun (w1 : World) (h : Below w.heap.size w w1) => Kd.C_below hr0 h); have HR := Lib.hid (fun (w1 : World) (h : Below w.heap.size w w1) => Kd.C_below hr1 h); obtain ⟨ra, hra⟩ : ∃ z, pairsV (EvP.holdsV x) (EvP.formV x) l r = z := ⟨_, rfl⟩
 have sa := pairsV_row (EvP.holdsV x) (EvP.formV x) l r; rw [hra] at PA sa; obtain ⟨a, ea⟩ := ra; have HRA := Lib.hid hra; have F1 := Lib.hid (show (∀ e ∈ a, e.f0.length ≤ 4398046511104) ∧ a.length ≤ 1000000 ∧ (ea ≠ 0 → a = []) from ⟨fun e he => by have := sa.1 e he; omega, by have := sa.2.1; simp only at this; omega, sa.2.2⟩); have EL := Lib.hid (fun (h : evenB l = true) (e : EdP) (he : e ∈ l) (e' : EdP) (he' : e' ∈ l) => evenB_all h he' he); have QL : decide ((l.length : Int) > 100) = false := decide_eq_false zq4; have QR : decide ((r.length : Int) > 100) = false := decide_eq_false zq4; clear hr0 hr1 hr2 hc0 hc1 hc2 hl hr hx wl wr sa hra; obtain ⟨b1, hb1⟩ : ∃ b, evenB l = b := ⟨_, rfl⟩
 obtain ⟨b2, hb2⟩ : ∃ b, evenB r = b := ⟨_, rfl⟩
 rw [hb1] at EA EL; rw [hb2] at EB; clear hb1 hb2; go_enter Tryz.func7, Tryz.ntmps7
 go_wp2_with fail
 refine EA.out.mono ?_; rintro e w1 ⟨rfl, hb1⟩; have HB1 := Lib.hid hb1; clear hb1 EA; cases b1 with
 | false =>
  go_wp2_with fail
  refine (FIN.out _ HB1.out).mono ?_; rintro e w9 ⟨rfl, hb9⟩; go_wp2; go_ret; exact ⟨rfl, hb9⟩
 | true =>
 have EL2 := Lib.hid (EL.out rfl); clear EL
 go_wp2_with fail
 refine (EB.out w1 HB1.out).mono ?_; rintro e w2 ⟨rfl, hb2⟩; have HB2 := Lib.hid (HB1.out.trans (hb2.mono HB1.out.size)); clear hb2 EB; cases b2 with
 | false =>
  go_wp2_with fail
  refine (FIN.out _ HB2.out).mono ?_; rintro e w9 ⟨rfl, hb9⟩; go_wp2; go_ret; exact ⟨rfl, hb9⟩
 | true =>
 go_wp2_with fail
 refine (PA.out w2 HB2.out).mono ?_; rintro e w3 ⟨Aa, ca, rfl, hCa, hca, hb3⟩; have HA := Lib.hid (fun (w4 : World) (h : Below w3.heap.size w3 w4) => Kd.C_below hCa h); have HCA := Lib.hid hca; have HB3 := Lib.hid (HB2.out.trans (hb3.mono HB2.out.size)); clear hCa hca hb3 PA; simp only at HA HCA ⊢
 by_cases h1 : ea = 0
 case neg =>
  have q1 : (ea != 0) = true := by simpa using h1
  have e0 : a = [] := F1.out.2.2 h1; subst e0; clear h1
  go_wp2_with fail
  refine (FIN.out _ HB3.out).mono ?_; rintro e w9 ⟨rfl, hb9⟩; have HB9 := Lib.hid hb9; clear hb9; go_wp2; go_ret; exact ⟨rfl, HB9.out⟩
 case pos =>
 subst h1; have TJ := Lib.hid (fun (e0 f0 : EdP) (he : e0 ∈ l) => ticks_join HRA.out e0.f0 f0.f0 (fun e he' => (EL2.out e he' e0 he).symm) t); have JA := Lib.hid (fun (A : Option Addr) (c : Nat) (q : List Vl) (w4 : World) (h : Below w3.heap.size w3 w4) (hR : Kd.C kV w4 A q.length q) (hc : q.length ≤ c) => jumps_any Aa ca a A c q w4 (HA.out w4 h) HCA.out hR hc F1.out.2.1 F1.out.1); obtain ⟨_, _, ma, _⟩ := pairs_val HRA.out; have mm := pairs_val HRA.out; have FJ := Lib.hid (show (∀ q, Fair (jumpsOf l q)) ∧ (∀ q, Fair (jumpsOf r q)) ∧ ∀ q, Fair (jumpsOf a q) from ⟨fun q => mm.1.fairJ q, fun q => mm.2.1.fairJ q, fun q => ma.fairJ q⟩); clear ma mm HRA EL2 HB2 HB1
 go_wp2_with fail
 go_loopw [11] (fun v11 wr => ∃ (i : Nat), i ≤ l.length ∧ v11 = .int .i64 (i : Int) ∧ Aside0 (Below w3.heap.size w3 wr)) (fun v11 wr => l.length - (intOf v11).toNat)
 case atStart => exact ⟨0, Nat.zero_le _, rfl, ⟨Below.refl _ _⟩⟩
 case round =>
  obtain ⟨i, hi, rfl, HBr⟩ := hrel
  by_cases c : i < l.length
  case neg =>
   obtain rfl : i = l.length := by omega
   have HBw := Lib.hid (HB3.out.trans (HBr.out.mono HB3.out.size))
   go_wp2_with fail
   refine (FIN.out _ HBw.out).mono ?_; rintro e w9 ⟨rfl, hb9⟩; have HB9 := Lib.hid hb9; clear hb9; go_wp2; go_ret; exact ⟨rfl, HB9.out⟩
  case pos =>
  obtain ⟨X, hX⟩ : ∃ X, l[i] = X := ⟨_, rfl⟩
  have HM := Lib.hid (show X ∈ l by rw [← hX]; exact List.getElem_mem c); have HXX := Lib.hid hX; have HCI := Lib.hid c; have qi : (i : Int) < (l.length : Int) := by omega
  clear hX
  go_wp2_with fail
  go_loopw [12] (fun v12 wr => ∃ (k : Nat), k ≤ r.length ∧ v12 = .int .i64 (k : Int) ∧ Aside0 (Below w3.heap.size w3 wr)) (fun v12 wr => r.length - (intOf v12).toNat)
  case atStart => exact ⟨0, Nat.zero_le _, rfl, HBr⟩
  case round =>
   obtain ⟨k, hk, rfl, HBz⟩ := hrel
   by_cases c2 : k < r.length
   case neg =>
    obtain rfl : k = r.length := by omega
    go_wp2_with fail
    go_roundw
    case rel => exact ⟨i + 1, by omega, by go_num, HBz⟩
    case measure => simp [intOf]; omega
   case pos =>
   obtain ⟨Y, hY⟩ : ∃ Y, r[k] = Y := ⟨_, rfl⟩
   have HN := Lib.hid (show Y ∈ r by rw [← hY]; exact List.getElem_mem c2); have HBw := Lib.hid (HB3.out.trans (HBz.out.mono HB3.out.size)); obtain ⟨ad, Ax, cx, e1, x0, _, _, x3, x4⟩ := at_T41 (HL.out wr HBw.out) (i : Int) zq4 zq4; obtain ⟨bd, Ay, cy, e2, y0, _, _, y3, y4⟩ := at_T41 (HR.out wr HBw.out) (k : Int) zq4 zq4; rw [Int.toNat_natCast, rdE l i HCI.out, HXX.out] at x0; rw [rdE l i HCI.out, HXX.out] at x3 x4; rw [Int.toNat_natCast, rdE r k c2, hY] at y0; rw [rdE r k c2, hY] at y3 y4; cases e1; cases e2; have qk : (k : Int) < (r.length : Int) := by omega
   have JN := Lib.hid (fun (w4 : World) (h : Below wr.heap.size wr w4) => join_any Ax Ay cx cy X.f0 Y.f0 w4 (Kd.C_below x4 h) x3 (Kd.C_below y4 h) y3); have X4 := Lib.hid (fun (w4 : World) (h : Below wr.heap.size wr w4) => Kd.C_below x4 h); have Y4 := Lib.hid (fun (w4 : World) (h : Below wr.heap.size wr w4) => Kd.C_below y4 h); have X3 := Lib.hid x3; have Y3 := Lib.hid y3; have X0 := Lib.hid (fun (w4 : World) (h : Below wr.heap.size wr w4) => pw_cell_below h x0); have Y0 := Lib.hid (fun (w4 : World) (h : Below wr.heap.size wr w4) => pw_cell_below h y0); clear x3 x4 y3 y4 hY
   go_wp2_with fail
   go_cut [13, 14] (fun v13 v14 wx => ∃ A c, v13 = .slice A (joinV X.f0 Y.f0).1.length c ∧ v14 = .int .i64 (joinV X.f0 Y.f0).2 ∧ Kd.C kV wx A (joinV X.f0 Y.f0).1.length (joinV X.f0 Y.f0).1 ∧ (joinV X.f0 Y.f0).1.length ≤ c ∧ Below wr.heap.size wr wx)
   case first =>
    refine start_ (n := 16) (S := fun w' => Below wr.heap.size wr w' ∧ w'.cell? (ad.add (i * 3)) = some (.slice Ax X.f0.length cx) ∧ w'.cell? (bd.add (k * 3)) = some (.slice Ay Y.f0.length cy)) (ds := []) #[false, false, false, false, false, false, false, false, false, false, false, false, false, false, false, false] zq17 rfl rfl ⟨below_drew1 (Below.refl _ _), x0, y0⟩ (fun hHeld => ?_); refine with_tabW jta.tab14 jta.bits14 (fun HT_ HW_ => ?_); refine pZ 0 64 ?_; refine pZ 1 65 ?_; refine pZ 2 66 ?_; refine pZ 3 67 ?_; refine pZ 5 69 ?_; refine pZ 6 70 ?_; refine pZ 7 71 ?_; refine pZ 8 72 ?_; refine tZ3 4 68 ?_; refine tZ3 9 73 ?_; refine oZ 10 74 (fun K hK => ?_); refine goes_ Tryz.func32 zq17 rfl #[.slice Ax X.f0.length cx, .slice Ay Y.f0.length cy] (by rfl) rfl rfl zq67 ?_
    with_reducible refine (JN.out _ hHeld.1).mono ?_
    rintro e w5 ⟨Aj, cj, rfl, hCj, hcj, hb5⟩; refine ⟨_, rfl, ?_⟩; have HBJ := Lib.hid (hHeld.1.trans (hb5.mono hHeld.1.size)); refine hK.out _ _ ⟨HBJ.out, X0.out _ HBJ.out, Y0.out _ HBJ.out⟩ (fun hHeld => ?_); clear hK K; refine nZ 74 ?_; refine pZ 11 63 ?_; refine pZ 12 75 ?_; refine pZ 13 76 ?_; refine pZ 14 13 ?_; refine pZ 15 14 ?_; refine done_ (done_of HT_.out zq17) ?_
    go_wp2_with fail
    go_meet
    exact ⟨Aj, cj, rfl, rfl, hCj, hcj, HBJ.out⟩
   case rest =>
   obtain ⟨Aj, cj, rfl, rfl, hCj, hcj, hw⟩ := hcut; have HD5 := Lib.hid hw; have HCJ := Lib.hid hCj; have HCj := Lib.hid hcj; have HF5 := Lib.hid (HBz.out.trans (hw.mono HBz.out.size)); clear hCj hcj hw; obtain ⟨⟨bo, eb⟩, hbo⟩ : ∃ z, joinV X.f0 Y.f0 = z := ⟨_, rfl⟩
   rw [hbo] at HCJ HCj ⊢; simp only at HCJ HCj ⊢
   by_cases c3 : eb = 0
   case neg =>
    have q3 : (eb != 0) = true := by simpa using c3
    clear c3 hbo
    go_wp2_with fail
    go_roundw
    case rel => exact ⟨k + 1, by omega, by go_num, ⟨HF5.out⟩⟩
    case measure => simp [intOf]; omega
   case pos =>
   subst c3; obtain ⟨_, _, _, hb2⟩ := joinV_ok hbo; obtain ⟨nb, hnb⟩ : ∃ n, bo.length = n := ⟨_, rfl⟩
   obtain ⟨jl, hjl⟩ : ∃ z, jumpsOf l X.f0 = z := ⟨_, rfl⟩
   obtain ⟨jr, hjr⟩ : ∃ z, jumpsOf r Y.f0 = z := ⟨_, rfl⟩
   obtain ⟨ja, hja⟩ : ∃ z, jumpsOf a bo = z := ⟨_, rfl⟩
   have LJ := Lib.hid (show jl.length ≤ 100 ∧ jr.length ≤ 100 ∧ ja.length ≤ 1000000 from ⟨by have := jumpsOf_len l X.f0; rw [hjl] at this; omega, by have := jumpsOf_len r Y.f0; rw [hjr] at this; omega, by have := jumpsOf_len a bo; rw [hja] at this; have := F1.out.2.1; omega⟩); have GJ := Lib.hid (show Fair jl ∧ Fair jr ∧ Fair ja from ⟨hjl ▸ FJ.out.1 _, hjr ▸ FJ.out.2.1 _, hja ▸ FJ.out.2.2 _⟩); have JL2 := Lib.hid (fun A c w1 h hR hc => JL.out A c X.f0 w1 h hR hc); have JR2 := Lib.hid (fun A c w1 h hR hc => JR.out A c Y.f0 w1 h hR hc); have JA2 := Lib.hid (fun A c w1 h hR hc => JA.out A c bo w1 h hR hc); have TV := Lib.hid (TJ.out X Y HM.out); rw [hjl] at JL2; rw [hjr] at JR2; rw [hja] at JA2; rw [← hb2] at TV; rw [hjl, hjr, hja] at TV; have V := HC.out X Y HM.out HN.out; rw [← hb2] at V; rw [hnb] at V HCJ HCj JA2 ⊢; obtain ⟨hv, hhv⟩ : ∃ z, EvP.holdsV x bo = z := ⟨_, rfl⟩
   have hkj : kJ_ (EvP.holdsV x) bo = if hv.2 = 0 ∧ hv.1 = false then 0 else 1 := by unfold kJ_; rw [hhv]
   rw [hkj] at TV; rw [hhv] at V; obtain ⟨ok, g⟩ := hv; simp only at TV V; have VV := Lib.hid V; have vb1 := valI_bound t jl GJ.out.1; have vb2 := valI_bound t jr GJ.out.2.1; obtain ⟨vl, hvl⟩ : ∃ z, valI jl t = z := ⟨_, rfl⟩
   obtain ⟨vr, hvr⟩ : ∃ z, valI jr t = z := ⟨_, rfl⟩
   rw [hvl] at vb1; rw [hvr] at vb2; rw [hvl, hvr] at TV; have hlj := LJ.out; have hmb := mul_bd vl vr zq4 zq4 zq4 zq4; have hwr : IntKind.i64.wrap (vl * vr) = vl * vr := by rw [IntKind.wrap_i64]; omega
   have C1 := Lib.hid (show ∀ w4, Below wc.heap.size wc w4 → Calls Tryz.prog 26 #[.slice (some ad) l.length c0, .slice Ax X.f0.length cx] w4 (fun e w' => ∃ A c, e = .returned (.slice A jl.length c) ∧ (∀ w9, Below w'.heap.size w' w9 → Calls Tryz.prog 25 #[.slice A jl.length c, .int .i64 t] w9 fun e w'' => e = .returned (.int .i64 vl) ∧ Below w9.heap.size w9 w'') ∧ Below w4.heap.size w4 w') from fun w4 h => (JL2.out Ax cx w4 (HBw.out.trans ((HD5.out.trans (h.mono HD5.out.size)).mono HBw.out.size)) (X4.out w4 (HD5.out.trans (h.mono HD5.out.size))) X3.out).mono fun e w' ⟨A, c, he, hC, hc, hb⟩ => ⟨A, c, he, fun w9 h9 => by
    have := value_any A c jl t w9 (Kd.C_below hC h9) hc GJ.out.1 (by have := LJ.out.1; omega); rw [hvl] at this; exact this, hb⟩)
   have C2 := Lib.hid (show ∀ w4, Below wc.heap.size wc w4 → Calls Tryz.prog 26 #[.slice (some bd) r.length c1, .slice Ay Y.f0.length cy] w4 (fun e w' => ∃ A c, e = .returned (.slice A jr.length c) ∧ (∀ w9, Below w'.heap.size w' w9 → Calls Tryz.prog 25 #[.slice A jr.length c, .int .i64 t] w9 fun e w'' => e = .returned (.int .i64 vr) ∧ Below w9.heap.size w9 w'') ∧ Below w4.heap.size w4 w') from fun w4 h => (JR2.out Ay cy w4 (HBw.out.trans ((HD5.out.trans (h.mono HD5.out.size)).mono HBw.out.size)) (Y4.out w4 (HD5.out.trans (h.mono HD5.out.size))) Y3.out).mono fun e w' ⟨A, c, he, hC, hc, hb⟩ => ⟨A, c, he, fun w9 h9 => by
    have := value_any A c jr t w9 (Kd.C_below hC h9) hc GJ.out.2.1 (by have := LJ.out.2.1; omega); rw [hvr] at this; exact this, hb⟩)
   clear hlj hmb vb1 vb2 V hkj hhv hjl hjr hja hbo hb2 hnb
   go_upto_region 16 with fail
   go_cut [15] (fun v15 wx => v15 = .int .i64 (vl * vr) ∧ Below wc.heap.size wc wx)
   case first =>
    have x1 := X0.out _ HD5.out; have y1 := Y0.out _ HD5.out; have HBB := below_drew1 (Below.refl wc.heap.size wc); have X1 := Lib.hid (fun (w4 : World) (h : Below wc.heap.size wc w4) => X0.out w4 (HD5.out.trans (h.mono HD5.out.size))); have Y1 := Lib.hid (fun (w4 : World) (h : Below wc.heap.size wc w4) => Y0.out w4 (HD5.out.trans (h.mono HD5.out.size))); refine start_ (n := 20) (S := fun w' => Below wc.heap.size wc w' ∧ w'.cell? (ad.add (i * 3)) = some (.slice Ax X.f0.length cx) ∧ w'.cell? (bd.add (k * 3)) = some (.slice Ay Y.f0.length cy)) (ds := []) #[false, false, false, false, false, false, false, false, false, false, false, false, false, false, false, false, false, false, false, false] zq17 rfl rfl ⟨HBB, x1, y1⟩ (fun hHeld => ?_); refine with_tabW jtb.tab16 jtb.bits16 (fun HT_ HW_ => ?_); refine pZ 0 79 ?_; refine pZ 1 80 ?_; refine pZ 2 81 ?_; refine pZ 3 82 ?_; refine pZ 4 83 ?_; refine pZ 7 86 ?_; refine pZ 9 88 ?_; refine pZ 10 89 ?_; refine pZ 11 90 ?_; refine pZ 12 91 ?_; refine pZ 13 92 ?_; refine pZ 16 95 ?_; refine tZ3 5 84 ?_; refine tZ3 14 93 ?_; refine oZ 6 85 (fun K hK => ?_); refine goes_ Tryz.func26 zq17 rfl #[.slice (some ad) l.length c0, .slice Ax X.f0.length cx] (by rfl) rfl rfl zq67 ?_
    with_reducible refine (C1.out _ hHeld.1).mono ?_
    rintro e w5 ⟨Aq, cq, rfl, hv1, hb5⟩; refine ⟨_, rfl, ?_⟩; refine hK.out _ _ ⟨hHeld.1.trans (hb5.mono hHeld.1.size), X1.out _ (hHeld.1.trans (hb5.mono hHeld.1.size)), Y1.out _ (hHeld.1.trans (hb5.mono hHeld.1.size))⟩ (fun hHeld => ?_); clear hK K; refine nZ 85 ?_; refine oZ 8 87 (fun K hK => ?_); refine goes_ Tryz.func25 zq17 rfl #[.slice Aq jl.length cq, .int .i64 t] (by rfl) rfl rfl zq67 ?_
    with_reducible refine (hv1 _ (Below.refl _ _)).mono ?_
    rintro e w7 ⟨rfl, hb7⟩; refine ⟨_, rfl, ?_⟩; refine hK.out _ _ ⟨hHeld.1.trans (hb7.mono hHeld.1.size), X1.out _ (hHeld.1.trans (hb7.mono hHeld.1.size)), Y1.out _ (hHeld.1.trans (hb7.mono hHeld.1.size))⟩ (fun hHeld => ?_); clear hK K; refine nZ 87 ?_; refine oZ 15 94 (fun K hK => ?_); refine goes_ Tryz.func26 zq17 rfl #[.slice (some bd) r.length c1, .slice Ay Y.f0.length cy] (by rfl) rfl rfl zq67 ?_
    with_reducible refine (C2.out _ hHeld.1).mono ?_
    rintro e w6 ⟨Ar, cr, rfl, hv2, hb6⟩; refine ⟨_, rfl, ?_⟩; refine hK.out _ _ ⟨hHeld.1.trans (hb6.mono hHeld.1.size), X1.out _ (hHeld.1.trans (hb6.mono hHeld.1.size)), Y1.out _ (hHeld.1.trans (hb6.mono hHeld.1.size))⟩ (fun hHeld => ?_); clear hK K; refine nZ 94 ?_; refine oZ 17 96 (fun K hK => ?_); refine goes_ Tryz.func25 zq17 rfl #[.slice Ar jr.length cr, .int .i64 t] (by rfl) rfl rfl zq67 ?_
    with_reducible refine (hv2 _ (Below.refl _ _)).mono ?_
    rintro e w8 ⟨rfl, hb8⟩; refine ⟨_, rfl, ?_⟩; have HB8 := Lib.hid (hHeld.1.trans (hb8.mono hHeld.1.size)); refine hK.out _ _ ⟨hHeld.1.trans (hb8.mono hHeld.1.size), X1.out _ (hHeld.1.trans (hb8.mono hHeld.1.size)), Y1.out _ (hHeld.1.trans (hb8.mono hHeld.1.size))⟩ (fun hHeld => ?_); clear hK K; refine nZ 96 ?_; refine pZ 18 97 ?_; refine pZ 19 15 ?_; refine done_ (done_of HT_.out zq17) ?_
    go_wp2_with fail
    go_meet
    exact ⟨rfl, HB8.out⟩
   case rest =>
   obtain ⟨rfl, hw⟩ := hcut; have HF6 := Lib.hid (HF5.out.trans (hw.mono HF5.out.size)); have HDW := Lib.hid (HB3.out.trans (HF6.out.mono HB3.out.size)); have HCK := Lib.hid (Kd.C_below HCJ.out hw); have VC := Lib.hid (VV.out Aj cj _ HDW.out HCK.out HCj.out); clear C1 C2 JL2 JR2 JN hw HCJ VV
   go_wp2_with fail
   refine VC.out.mono ?_; rintro e w6 ⟨rfl, hb6⟩; have HF7 := Lib.hid (HF6.out.trans (hb6.mono HF6.out.size)); have HCL := Lib.hid (Kd.C_below HCK.out hb6); clear hb6 VC HCK; have JJ := Lib.hid (JA2.out Aj cj w6 HF7.out HCL.out HCj.out); clear JA2 HCL; obtain ⟨n, hn⟩ : ∃ n : Int, (if g = 0 ∧ ok = false then 0 else 1) * (vl * vr) = n := ⟨_, rfl⟩
   have HNV := Lib.hid (show valI ja t = n by rw [TV]; exact hn); have HNA := Lib.hid (fun (h : g = 0) (h2 : ok = false) => (show 0 = n by rw [← hn, if_pos ⟨h, h2⟩, Int.zero_mul])); have HNB := Lib.hid (fun (h : ¬ (g = 0 ∧ ok = false)) => (show vl * vr = n by rw [← hn, if_neg h, Int.one_mul])); clear hn TV
   go_upto_if 109 with (refine SortJ.stopC (n := 109) ?_; intro J hJ)
   refine Met.intro (hJ _ _ ?_)
   go_cut [15] (fun v15 wx => v15 = .int .i64 n ∧ w6 = wx)
   case first =>
    clear hJ
    by_cases c4 : g = 0
    ·cases ok with
     | false =>
      have hq := Lib.hid (HNA.out c4 rfl); subst c4; clear HNA HNB
      go_wp2_with fail
      go_meet
      exact ⟨by rw [← hq.out], rfl⟩
     | true =>
      have hq := Lib.hid (HNB.out (fun h => by cases h.2)); subst c4; clear HNA HNB
      go_wp2_with fail
      go_meet
      exact ⟨by rw [← hq.out], rfl⟩
    ·have hq := Lib.hid (HNB.out (fun h => c4 h.1))
     have q4 : (g == 0) = false := by simpa using c4
     clear HNA HNB c4
     go_wp2_with fail
     go_meet
     exact ⟨by rw [← hq.out], rfl⟩
   case rest =>
   obtain ⟨rfl, rfl⟩ := hcut; clear hJ HNA HNB hwr
   go_wp2_with fail
   refine JJ.out.mono ?_; rintro e w7 ⟨Ak, ck, rfl, hCk, hck, hb7⟩; have VA := Lib.hid (value_any Ak ck ja t w7 hCk hck GJ.out.2.2 LJ.out.2.2); have HF8 := Lib.hid (HF7.out.trans (hb7.mono HF7.out.size)); clear hCk hck hb7 JJ; rw [HNV.out] at VA
   go_wp2_with fail
   refine VA.out.mono ?_; rintro e w8 ⟨rfl, hb8⟩; have HF9 := Lib.hid (HF8.out.trans (hb8.mono HF8.out.size)); clear hb8 VA
   go_wp2_with fail
   go_roundw
   case rel => exact ⟨k + 1, by omega, by go_num, ⟨HF9.out⟩⟩
   case measure => simp [intOf]; omega
theorem joinTicks_walk (A0 : Option Addr) (c0 : Nat) (l0 : List EdP) (A1 : Option Addr) (c1 : Nat) (l1 : List EdP) (A2 : Option Addr) (c2 : Nat) (l2 : List Op8) (t : Int) (w : World) (hr0 : Kd.C k41 w A0 l0.length l0) (hc0 : l0.length ≤ c0) (h0 : wfEs l0)
  (hr1 : Kd.C k41 w A1 l1.length l1) (hc1 : l1.length ≤ c1) (h1 : wfEs l1) (hr2 : Kd.C k68 w A2 l2.length l2) (hc2 : l2.length ≤ c2) (h2 : wfX l2) (h3 : EvP.R64 t) :
  Calls Tryz.prog 7 #[.slice A0 l0.length c0, .slice A1 l1.length c1, .slice A2 l2.length c2, .int .i64 t] w fun e w' => e = .returned (.bool true) ∧ Below w.heap.size w w' :=
 joinTicks_calls A0 A1 A2 c0 c1 c2 l0 l1 l2 t w hr0 hc0 hr1 hc1 hr2 hc2 (okEs_wf h0) (okEs_wf h1) (okXs_wf h2)
end Go.Proofs.YtmkgecapkeojaaaGreat.Eg
end
