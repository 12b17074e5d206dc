/- Texts of this claim, put together by a program: Filter, PlB, PlC, Become, Proj, PlN, Flat, Pl9, Pl9b. -/
import Derived.Test.YtmkgecapkeojaaaGreatK10
set_option linter.unusedVariables false
set_option linter.unusedSimpArgs false
set_option maxHeartbeats 8000000
set_option maxRecDepth 100000
section
namespace Go.Proofs.YtmkgecapkeojaaaGreat.Eg
open Go.Proofs.YtmkgecapkeojaaaGreat Go.Proofs.YtmkgecapkeojaaaGreat.PDa
open Go.RowKit Go.Proofs.YtmkgecapkeojaaaGreatW.PrintWords Go.Proofs.YtmkgecapkeojaaaGreatW.PrintLast Go.Proofs.YtmkgecapkeojaaaGreatW.PrintMore
open Go.Proofs.YtmkgecapkeojaaaGreat.SortM Go.Proofs.YtmkgecapkeojaaaGreat.Run Go.Proofs.YtmkgecapkeojaaaGreat.Stp Go.Proofs.YtmkgecapkeojaaaGreat.Rw
attribute [local go_sem] Oper.semAt_some
abbrev Op8 := S68
abbrev kO := k68
theorem groups_iter (n : Nat) (hn : 8 ≤ n) (A0 : Option Addr) (c0 : Nat) (l : List EdP) (wE w : World) (hr0 : Kd.C kE wE A0 l.length l) (hE : Below wE.heap.size wE w) (hmay : mayE l = true) (hrow : ∀ e ∈ l, e.f0.length ≤ 4398046511104) :
  IterOn Fence.wide n Tryz.prog 84 #[.pointer (some ⟨w.heap.size, 0, none⟩)] (runsP l) PhiRun (fun b => b < wE.heap.size ∨ b = w.heap.size) (w.alloc (.cells #[.slice A0 l.length c0] 22 (0, 0))) :=
 groups1_iter n hn A0 c0 l w.heap.size _ wE _ hr0 (below_alloc hE _) ((blk_cell (blk_new w _) 0).trans rfl) (fun b hb => .inl hb) (.inr rfl) (fun b hb => by
  rw [World.size_alloc]
  rcases hb with hb | hb
  ·have := hE.size; omega
  ·omega) hmay hrow
theorem runAt_len : ∀ (es : List EdP) (r : List Vl) (js : List Jp), (runAt r js es).length ≤ es.length + 1
 | [], r, js => by simp [runAt]
 | e :: es, r, js => by
  rw [runAt]
  split
  ·have := runAt_len es r (js ++ [jmpE e]); simp; omega
  ·have := runAt_len es e.f0 [jmpE e]; simp; omega
theorem runs_len (l : List EdP) : (runsP l).length ≤ l.length := by
 cases l with
 | nil => exact Nat.le_refl _
 | cons e es => rw [runsP]; exact runAt_len es e.f0 _
def filR (hh : List Vl → Bool × Int) (out : List EdP) : List (List Vl × List Jp) → List EdP × Int
 | [] => (out, 0)
 | x :: xs => if (hh x.1).2 ≠ 0 then ([], (hh x.1).2) else if (hh x.1).1 = true then filR hh (out ++ buildP x.1 x.2) xs else filR hh out xs
theorem filR_drop (hh : List Vl → Bool × Int) (out : List EdP) (l : List (List Vl × List Jp)) (k : Nat) (x : List Vl × List Jp) (h : l[k]? = some x) :
  filR hh out (l.drop k) = if (hh x.1).2 ≠ 0 then ([], (hh x.1).2) else if (hh x.1).1 = true then filR hh (out ++ buildP x.1 x.2) (l.drop (k + 1)) else filR hh out (l.drop (k + 1)) := by
 obtain ⟨hk, hx⟩ := List.getElem?_eq_some_iff.1 h; rw [List.drop_eq_getElem_cons hk, hx, filR]
def filterP (hh : List Vl → Bool × Int) (ef : Int) (l : List EdP) : List EdP × Int := if mayE l = true then (if ef ≠ 0 then ([], ef) else filR hh [] (runsP l)) else ([], 2)
theorem mayE_len {l : List EdP} (h : mayE l = true) : l.length ≤ 4096 := by
 unfold mayE eachP at h; rw [Bool.and_eq_true] at h; exact of_decide_eq_true h.1
theorem buildP_len (r : List Vl) (f : List Jp) : (buildP r f).length ≤ 1024 := by
 unfold buildP
 split
 ·rename_i h
  rw [Bool.and_eq_true] at h; have := mayJ_len h.2; simp [putP]; omega
 ·exact Nat.zero_le _
def fil.T14 : Bool × List (List Nat × List Nat) := (true, [([], []), ([], []), ([], []), ([1, 2], [1, 2]), ([0, 3, 3], [0, 3]), ([4, 4, 0, 1, 2, 3, 4], [4])])
def fil.B14 : List Nat := [0, 0, 0, 6, 15, 31]
theorem fil.tab14 : rtab .any (opsOf Tryz.f18 14) = fil.T14 := by kernel_rfl
theorem fil.bits14 : waitsOk fil.T14.2 fil.B14 = true := by kernel_rfl
theorem Filter_calls (hh : List Vl → Bool × Int) (ef : Int) (A0 : Option Addr) (c0 : Nat) (l : List EdP) (A1 : Option Addr) (c1 : Nat) (x : List Op8) (w : World) (hr0 : Kd.C kE w A0 l.length l) (hrow : ∀ e ∈ l, e.f0.length ≤ 4398046511104)
  (hr1 : Kd.C kO w A1 x.length x) (hc1 : x.length ≤ c1) (hhk : ∀ e ∈ l, ∃ k, eval_Holds.f k x e.f0 = some (hh e.f0)) (hfk : ∃ k, expr_Form.f k x = some ef) :
  Calls Tryz.prog 18 #[.slice A0 l.length c0, .slice A1 x.length c1] w fun e w' => ∃ v, e = .returned (.tuple #[v, .int .i64 (filterP hh ef l).2]) ∧ Kd.R kE tE w' w.heap.size (fun _ => True) v (filterP hh ef l).1 ∧ Below w.heap.size w w' := by
 have hu22 : Tryz.prog.underlying 22 = some (.slice 41) := by kernel_rfl
 have GC := Lib.hid (Groups_calls A0 c0 l.length); have MC := Lib.hid (fun (w1 : World) (h : Below w.heap.size w w1) => May_calls A0 c0 l w1 (Kd.C_below hr0 h) hrow); have FC := Lib.hid (fun (w1 : World) (h : Below w.heap.size w w1) => (show Calls Tryz.prog 47 #[.slice A1 x.length c1] w1 fun e w' => e = .returned (.int .i64 ef) ∧ Below w1.heap.size w1 w' from hfk.elim fun k hk => expr_Form.calls k A1 c1 x ef w1 (Kd.C_below hr1 h) hc1 hk)); have HC := Lib.hid (fun (e0 : EdP) (he : e0 ∈ l) (A : Option Addr) (c : Nat) (w1 : World) (h : Below w.heap.size w w1) (hR : Kd.R kV tV w1 0 (fun _ => True) (.slice A e0.f0.length c) e0.f0) => (show Calls Tryz.prog 24 #[.slice A1 x.length c1, .slice A e0.f0.length c] w1 fun e w' => e = .returned (.tuple #[.bool (hh e0.f0).1, .int .i64 (hh e0.f0).2]) ∧ Below w1.heap.size w1 w' from (hhk e0 he).elim fun k hk => eval_Holds.calls k A1 c1 x A c e0.f0 _ _ w1 (Kd.C_below hr1 h) hc1 (Kd.R_reads' hR).2.2 (Kd.R_reads' hR).2.1 hk)); have HR := Lib.hid hr0; have HRW := Lib.hid hrow; clear hr0 hr1 hrow hhk hfk hc1; obtain ⟨o, ho⟩ : ∃ o, filterP hh ef l = o := ⟨_, rfl⟩
 rw [ho]; obtain ⟨m, hm⟩ : ∃ m, mayE l = m := ⟨_, rfl⟩
 rw [hm] at MC; refine (callsIn_wide (n := 12)).1 ?_; refine callsIn_of_wp_marks Tryz.func18 rfl trivial ?_ rfl; simp only [Tryz.ntmps18, List.size_toArray, List.length_cons, List.length_nil, Nat.reduceAdd, Nat.reduceSub, Array.replicate_succ, Array.replicate_zero, List.push_toArray, List.append_toArray, List.nil_append, List.cons_append]; gi_wp2; obtain ⟨W1, hW1⟩ : ∃ W1, ((w.alloc (.cells #[.slice A1 x.length c1] 24 (0, 0))).alloc (.cells #[.slice none 0 0] 22 (0, 0))).alloc (.cells #[.int .i64 0] 27 (0, 0)) = W1 := ⟨_, rfl⟩
 have hsW1 : W1.heap.size = w.heap.size + 3 := by rw [← hW1]; simp
 have hbW1 : Below w.heap.size w W1 := by rw [← hW1]; exact below_alloc (below_alloc (below_alloc (Below.refl _ w) _) _) _
 have bx3 : W1.heap[w.heap.size]? = some (.cells #[.slice A1 x.length c1] 24 (0, 0)) := by
  have h1 := blk_new (w) (.cells #[.slice A1 x.length c1] 24 (0, 0)); rw [← hW1]; exact blk_alloc (blk_alloc (h1) _) _
 have bx4 : W1.heap[w.heap.size + 1]? = some (.cells #[.slice none 0 0] 22 (0, 0)) := by
  have h1 := blk_new (w.alloc (.cells #[.slice A1 x.length c1] 24 (0, 0))) (.cells #[.slice none 0 0] 22 (0, 0)); rw [World.size_alloc] at h1; rw [← hW1]; exact blk_alloc (h1) _
 have bx5 : W1.heap[w.heap.size + 1 + 1]? = some (.cells #[.int .i64 0] 27 (0, 0)) := by
  have h1 := blk_new ((w.alloc (.cells #[.slice A1 x.length c1] 24 (0, 0))).alloc (.cells #[.slice none 0 0] 22 (0, 0))) (.cells #[.int .i64 0] 27 (0, 0)); rw [World.size_alloc, World.size_alloc] at h1; rw [← hW1]; exact h1
 rw [hW1]; refine ⟨trivial, ?_⟩; refine (callsIn_wide.2 (MC.out W1 hbW1)).mono ?_; rintro e w2 ⟨rfl, hb2⟩; have HB2 := Lib.hid (hbW1.trans (hb2.mono hbW1.size)); have HSW := Lib.hid (show w.heap.size + 3 ≤ w2.heap.size by have := hb2.size; omega); have HX3 := Lib.hid (Boxed.below (W := W1) (B := w.heap.size) (t := 24) (v := .slice A1 x.length c1) bx3 hb2); have HX4 := Lib.hid (Boxed.below (W := W1) (B := w.heap.size + 1) (t := 22) (v := .slice none 0 0) bx4 hb2); have HX5 := Lib.hid (Boxed.below (W := W1) (B := w.heap.size + 1 + 1) (t := 27) (v := .int .i64 0) bx5 hb2); clear hW1 hsW1 hbW1 bx3 bx4 bx5 hb2; have cl3 := HX3.out.cell; have cl4 := HX4.out.cell; have fr4 := HX4.out.frozen; have HX5' := Lib.hid (Boxed.other HX5.out (B' := w.heap.size + 1) zq4 (.slice none 0 0)); have cl5 := HX5'.out.cell; have fr5 := HX5'.out.frozen; cases m with
 | false =>
  have HO := Lib.hid (show o = ([], 2) by rw [← ho]; unfold filterP; rw [hm]; rfl); have HZ4 := Lib.hid (Boxed.other (HX4.out.set (.slice none 0 0)) (B' := w.heap.size + 1 + 1) zq4 (.int .i64 2)); have HZ5 := Lib.hid (HX5'.out.set (.int .i64 2)); have HZB := Lib.hid (Below.setCell (Below.setCell HB2.out (p := ⟨w.heap.size + 1, 0, none⟩) zq61 (.slice none 0 0)) (p := ⟨w.heap.size + 1 + 1, 0, none⟩) zq52 (.int .i64 2)); clear ho hm; gi_wp2; exact ⟨_, results_c2 rfl _ _ _ rfl HZ4.out.cell (oneC_slice hu22) rfl HZ5.out.cell (oneC_int Tryz.underlying27), _, by rw [HO.out], by rw [HO.out]; exact Kd.R_nil _ _ _ _ _, HZB.out⟩
 | true =>
  by_cases hef : ef = 0
  ·subst hef
   have HO := Lib.hid (show o = filR hh [] (runsP l) by rw [← ho]; unfold filterP; rw [if_pos hm, if_neg zq30]); have HM := Lib.hid hm; clear ho hm; gi_wp2; refine ⟨trivial, ?_⟩; refine (callsIn_wide.2 (FC.out w2 HB2.out)).mono ?_; rintro e w3 ⟨rfl, hb3⟩; have HB3 := Lib.hid (HB2.out.trans (hb3.mono HB2.out.size)); have HY3 := Lib.hid (Boxed.below HX3.out hb3); have HY4 := Lib.hid (Boxed.below HX4.out hb3); have HY5 := Lib.hid (Boxed.below HX5.out hb3); have HSW3 := Lib.hid (show w.heap.size + 3 ≤ w3.heap.size by have := hb3.size; have := HSW.out; omega); clear hb3 HX3 HX4 HX5 HX5' cl3 cl4 fr4 cl5 fr5 HB2 HSW; gi_wp2; obtain ⟨W4, hW4⟩ : ∃ W4, (w3.alloc (.cells #[] 41 (0, 0))).alloc (.cells #[.slice (some ⟨w3.heap.size, 0, none⟩) 0 0] 22 (0, 0)) = W4 := ⟨_, rfl⟩
   have hsW4 : W4.heap.size = w3.heap.size + 2 := by rw [← hW4]; simp
   have hbW4 : Below w3.heap.size w3 W4 := by rw [← hW4]; exact below_alloc (below_alloc (Below.refl _ w3) _) _
   have bk0 : W4.heap[w3.heap.size]? = some (.cells #[] 41 (0, 0)) := by
    have h1 := blk_new (w3) (.cells #[] 41 (0, 0)); rw [← hW4]; exact blk_alloc (h1) _
   have bx7 : W4.heap[w3.heap.size + 1]? = some (.cells #[.slice (some ⟨w3.heap.size, 0, none⟩) 0 0] 22 (0, 0)) := by
    have h1 := blk_new (w3.alloc (.cells #[] 41 (0, 0))) (.cells #[.slice (some ⟨w3.heap.size, 0, none⟩) 0 0] 22 (0, 0)); rw [World.size_alloc] at h1; rw [← hW4]; exact h1
   rw [hW4]; have hit := groups_iter 11 zq4 A0 c0 l w W4 HR.out (HB3.out.trans (hbW4.mono HB3.out.size)) HM.out HRW.out; obtain ⟨its, hits⟩ : ∃ z, runsP l = z := ⟨_, rfl⟩
   have HIM := Lib.hid (fun y (h : y ∈ its) => runs_mem l y (by rw [hits]; exact h)); have HIL := Lib.hid (show its.length ≤ 4096 by rw [← hits]; exact Nat.le_trans (runs_len l) (mayE_len HM.out)); rw [hits] at hit HO; have HIT := Lib.hid hit; have HS4 := Lib.hid hsW4; have HB4 := Lib.hid hbW4; have HBK := Lib.hid bk0; have HX7 := Lib.hid (show Boxed W4 (w3.heap.size + 1) 22 (.slice (some ⟨w3.heap.size, 0, none⟩) 0 0) from bx7); clear hit hsW4 hbW4 bk0 bx7 hits hW4; refine ⟨trivial, ?_⟩; refine (callsIn_wide.2 (GC.out W4)).mono ?_; rintro e w5 ⟨rfl, rfl⟩; gi_wp2; obtain ⟨W5, hW5⟩ : ∃ W5, W4.alloc (.cells #[.slice A0 l.length c0] 22 (0, 0)) = W5 := ⟨_, rfl⟩
   have HS5 := Lib.hid (show W5.heap.size = w3.heap.size + 3 by rw [← hW5, World.size_alloc, HS4.out]); have HB5 := Lib.hid (show Below w3.heap.size w3 W5 by rw [← hW5]; exact below_alloc HB4.out _); have HZ7 := Lib.hid (show Boxed W5 (w3.heap.size + 1) 22 (.slice (some ⟨w3.heap.size, 0, none⟩) 0 0) by rw [← hW5]; exact blk_alloc HX7.out _); have HO5 := Lib.hid (show Kd.R kE tE W5 w.heap.size (fun _ => True) (.slice (some ⟨w3.heap.size, 0, none⟩) 0 0) [] from ⟨fun _ _ => trivial, [], ⟨rfl, .inr ⟨w3.heap.size, 0, #[], rfl, by have := HSW3.out; omega, by rw [← hW5]; exact blk_alloc HBK.out _, Nat.le_refl _, Nat.zero_le _, rfl, rfl⟩⟩, Reps.none _ _⟩); have HZ3 := Lib.hid (Boxed.below HY3.out HB5.out); have HZ4 := Lib.hid (Boxed.below HY4.out HB5.out); have HZ5 := Lib.hid (Boxed.below HY5.out HB5.out); have HB5w := Lib.hid (HB3.out.trans (HB5.out.mono HB3.out.size)); rw [hW5] at HIT ⊢; clear hW5 HX7 HBK HY3 HY4 HY5 GC; have hS0 : ∀ b, (fun b => OwnS (w3.heap.size + 1) (.slice (some ⟨w3.heap.size, 0, none⟩) 0 0) b ∨ (b = w.heap.size + 1 ∨ b = w.heap.size + 1 + 1)) b → ¬ (b < w.heap.size ∨ b = W4.heap.size) ∧ b < W5.heap.size := by
    intro b hb; have h1 := HS4.out; have h2 := HS5.out; have h3 := HSW3.out
    rcases hb with (rfl | hb) | hb
    ·omega
    ·have : w3.heap.size = b := by simpa [Value.ownBlock] using hb
     omega
    ·omega
   refine range_outer (F := Fence.wide) rfl zq4 (gf := 84) (lb := #[.pointer (some ⟨W4.heap.size, 0, none⟩)]) rfl trivial (enters_of Tryz.func84 zq17 rfl) HIT.out (Keeps.refl _ _) (fun x args W h => by obtain ⟨_, _, _, _, rfl, _⟩ := h; rfl)
    (fun k S W => ∃ v out, S = (fun b => OwnS (w3.heap.size + 1) (v) b ∨ (b = w.heap.size + 1 ∨ b = w.heap.size + 1 + 1)) ∧ Boxed W w.heap.size 24 (.slice A1 x.length c1) ∧ Boxed W (w.heap.size + 1) 22 (.slice none 0 0) ∧ Boxed W (w.heap.size + 1 + 1) 27 (.int .i64 0) ∧
     Boxed W (w3.heap.size + 1) 22 v ∧ Kd.R kE tE W w.heap.size (fun _ => True) v out ∧ Below w.heap.size w W ∧ (out.length ≤ k * 1024 ∧ filR hh [] its = filR hh out (its.drop k)))
    (fun c S W => c = .ret ∧ ∃ e, Boxed W (w.heap.size + 1) 22 (.slice none 0 0) ∧ Boxed W (w.heap.size + 1 + 1) 27 (.int .i64 e) ∧ Below w.heap.size w W ∧ filR hh [] its = ([], e))
    (fun y args a' W => ∃ Ar cr Aj cj, args = #[.slice Ar y.1.length cr, .slice Aj y.2.length cj] ∧ a' = { tmps := #[.slice A0 l.length c0, .slice A1 x.length c1, undef, .pointer (some ⟨w.heap.size, 0, none⟩), .pointer (some ⟨w.heap.size + 1, 0, none⟩), .pointer (some ⟨w.heap.size + 1 + 1, 0, none⟩), .int .i64 0, .pointer (some ⟨w3.heap.size + 1, 0, none⟩), .slice Ar y.1.length cr, .slice Aj y.2.length cj, undef, undef, .slice A0 l.length c0, .bool true, .bool false, .slice A1 x.length c1, .int .i64 0, .int .i64 0, .bool false, undef, .slice (some ⟨w3.heap.size, 0, none⟩) 0 0, .slice A0 l.length c0, .func (.func 84) #[] #[.pointer (some ⟨W4.heap.size, 0, none⟩)], .slice Ar y.1.length cr, .slice Aj y.2.length cj, undef, undef, undef, undef, undef, undef, undef, undef, undef, undef, undef, undef, undef, undef, undef, undef], defers := [] })
    (fun k S => Grow.ex fun v => Grow.ex fun out => (Grow.const _ _).and ((Grow.boxed _ _ _ _).and ((Grow.boxed _ _ _ _).and ((Grow.boxed _ _ _ _).and ((Grow.boxed _ _ _ _).and ((Grow.R _ _ _ _ _ _).and ((Grow.base (by have := HS5.out; have := HSW3.out; omega) w (Nat.le_refl _)).and (Grow.const _ _))))))))
    (fun c S => (Grow.const _ _).and (Grow.ex fun e => (Grow.boxed _ _ _ _).and ((Grow.boxed _ _ _ _).and ((Grow.base (by have := HS5.out; have := HSW3.out; omega) w (Nat.le_refl _)).and (Grow.const _ _))))) (fun y args => Grow.phi _ _ _)
    (fun y args a' => Grow.const _ _)
    (fun b => OwnS (w3.heap.size + 1) (.slice (some ⟨w3.heap.size, 0, none⟩) 0 0) b ∨ (b = w.heap.size + 1 ∨ b = w.heap.size + 1 + 1)) hS0 ⟨_, [], rfl, HZ3.out, HZ4.out, HZ5.out, HZ7.out, HO5.out, HB5w.out, Nat.zero_le _, by rw [List.drop_zero]⟩ ?assign ?body ?done ?stop
   case assign =>
    rintro l' k S y args W K hx hi ⟨Ar, cr, Aj, cj, rfl, hphi⟩ hK; clear hi hphi; gi_wp2; exact hK _ _ (Below.refl _ W) ⟨Ar, cr, Aj, cj, rfl, rfl⟩
   case body =>
    rintro l' k S y args a' W hl' ⟨r, hr⟩ hx hSb hSl hkR ⟨v, out, rfl, bx3, bx4, bx5, bx7, hRo, hBW, hout, hEE⟩ ⟨Ar, cr, Aj, cj, he1, hRr, hRj⟩ ⟨Ar2, cr2, Aj2, cj2, he2, rfl⟩; rw [he1] at he2; cases he2; dsimp only []; have hxm := HIM.out y (List.mem_of_getElem? hx); have HH := Lib.hid (filR_drop hh out its k y hx); obtain ⟨e0, he0, hy1⟩ := hxm.1; have HK := Lib.hid (show k < 4096 by have h1 := (List.getElem?_eq_some_iff.1 hx).1; have := HIL.out; omega); have HV := Lib.hid (fun (w1 : World) (h : Below W.heap.size W w1) => HC.out e0 he0 Ar cr w1 (hBW.trans (h.mono hBW.size)) (by rw [← hy1]; exact Kd.R_below hRr h)); rw [← hy1] at HV; have HBD := Lib.hid (fun (w1 : World) (h : Below W.heap.size W w1) => Build_calls Ar cr y.1 Aj cj y.2 w1 (Kd.R_below hRr h) (Kd.R_below hRj h)); obtain ⟨⟨hb, he⟩, hhb⟩ : ∃ z, hh y.1 = z := ⟨_, rfl⟩
    rw [hhb] at HV HH; have HBX3 := Lib.hid bx3; have HBX4 := Lib.hid bx4; have HBX5 := Lib.hid bx5; have HBX7 := Lib.hid bx7; have HRO := Lib.hid hRo; have HBW := Lib.hid hBW; have HEE := Lib.hid hEE; have HOUT := Lib.hid hout; have HSB := Lib.hid hSb; have cl3 := bx3.cell; clear hRr hRj bx3 bx4 bx5 bx7 hBW hEE hx he1 hSb hSl hkR hr hl' hRo hout hxm hhb hy1 he0; gi_wp2; refine ⟨trivial, ?_⟩; refine (CallsIn.inRound l' (callsIn_wide.2 (HV.out _ (Below.refl _ W)))).mono ?_; rintro e w6 ⟨rfl, hb6⟩; have HB6 := Lib.hid hb6; clear hb6; have HQ3 := Lib.hid (Boxed.below HBX3.out HB6.out); have HQ4 := Lib.hid (Boxed.below HBX4.out HB6.out); have HQ5 := Lib.hid (Boxed.below HBX5.out HB6.out); have HQ7 := Lib.hid (Boxed.below HBX7.out HB6.out)
    by_cases hee : he = 0
    ·have be : (he == 0) = true := by rw [hee]; rfl
     cases hb with
     | false =>
      have HH2 := Lib.hid (show filR hh [] its = filR hh out (its.drop (k + 1)) by rw [HEE.out, HH.out, if_neg (by simp [hee]), if_neg zq30]); clear hee; gi_wp2; exact ⟨_, Step.of_below HB6.out, fun b hb => Nat.lt_of_lt_of_le (HSB.out b hb) HB6.out.size, v, out, rfl, HQ3.out, HQ4.out, HQ5.out, HQ7.out, Kd.R_below HRO.out HB6.out, HBW.out.trans (HB6.out.mono HBW.out.size), by have := HOUT.out; omega, HH2.out⟩
     | true =>
      have HH2 := Lib.hid (show filR hh [] its = filR hh (out ++ buildP y.1 y.2) (its.drop (k + 1)) by rw [HEE.out, HH.out, if_neg (by simp [hee]), if_pos rfl]); clear hee; obtain ⟨o2, ho2⟩ : ∃ o2, out ++ buildP y.1 y.2 = o2 := ⟨_, rfl⟩
      have HL2 := Lib.hid (show o2.length ≤ (k + 1) * 1024 by have h1 := HOUT.out; have h3 := buildP_len y.1 y.2; rw [← ho2, List.length_append]; omega); rw [ho2] at HH2; have HO2 := Lib.hid ho2; clear ho2; gi_wp2; have HD6 := Lib.hid (below_drew1 HB6.out); have c7 : w6.drew.cell? ⟨w3.heap.size + 1, 0, none⟩ = some v := HQ7.out.cell; have HU3 := Lib.hid (show Boxed w6.drew w.heap.size 24 (.slice A1 x.length c1) from HQ3.out); have HU4 := Lib.hid (show Boxed w6.drew (w.heap.size + 1) 22 (.slice none 0 0) from HQ4.out); have HU5 := Lib.hid (show Boxed w6.drew (w.heap.size + 1 + 1) 27 (.int .i64 0) from HQ5.out); have HU7 := Lib.hid (show Boxed w6.drew (w3.heap.size + 1) 22 v from HQ7.out); have HRD6 := Lib.hid (Kd.R_below HRO.out HD6.out); have HOWN := Lib.hid (fun b (h : v.ownBlock = some b) => (own_ltR HRD6.out h).2); clear HQ3 HQ4 HQ5 HQ7 HB6 cl3; refine startIn_ (m := 6) (S := fun w' => w'.cell? ⟨w3.heap.size + 1, 0, none⟩ = some v) (ds := [4, 5]) (fun ⟨_, _, h⟩ => h) zq17 #[false, false, false, false, false, false] zq17 rfl rfl (c7) (fun hHeld => ?_); refine with_tabW fil.tab14 fil.bits14 (fun HT_ HW_ => ?_); generalize w6.drew = wD at c7 HD6 HU3 HU4 HU5 HU7 HRD6 HOWN hHeld ⊢; refine pZ 1 36 ?_; refine pZ 2 37 ?_; refine take_ (i := 0) (N := some 35) (v := ?_) (a' := ?_) #[true, true, true, false, false, false] rfl rfl (take_ofW HT_.out HW_.out zq17) (fun _ _ _ h => h) (Or.inl ⟨by rfl, ?_⟩) hHeld ?_ ?_; rotate_left
      ·intro w' s0
       go_simp
       with_reducible rfl
      rotate_left
      ·simp only [Act.put, List.setIfInBounds_toArray, List.set_cons_zero, List.set_cons_succ, i64_w, i32_w]
       rfl
      refine oZ 3 38 (fun K hK => ?_); refine goes_ Tryz.func49 zq17 rfl #[.slice Ar y.1.length cr, .slice Aj y.2.length cj] (by rfl) rfl rfl zq67 ?_
      with_reducible refine (HBD.out _ HD6.out).mono ?_
      rintro e w7 ⟨vb, rfl, hRb, hb7⟩; refine ⟨_, rfl, ?_⟩; obtain ⟨Ab, cb, rfl, hcb, hRd⟩ := OwnRow.reads hRb.2; have HRD := Lib.hid hRd; have HB7 := Lib.hid hb7; clear hRb hcb hRd hb7; refine hK.out _ _ (pw_cell_below HB7.out c7) (fun hHeld => ?_); clear hK K; refine nZ 38 ?_; refine last_ (i := 4) (N := some 39) #[true, true, true, true, true, false] rfl rfl (one_of HT_.out zq17) zq34 (fun K hK => ?_); refine Kd.R_append_rows_step kE (w0 := w7) w.heap.size (by rfl) (.tmp 35) (.tmp 38) 22 41 (.agg #[.slice none 0 0, (.int .i64 0), (.int .i64 0)]) 40 rfl hu22 info41 rfl zq34 zq4 v out (buildP y.1 y.2) _ _ _ (fun _ => True) (fun k => wD.heap.size ≤ k) rfl rfl ?aO HRD.out ?aM ?aK (fun _ _ => trivial) (Below.refl _ _) ?aS ?aL ?_
      case aO => exact Kd.R_below HRD6.out HB7.out
      case aM => exact fun z cs h => kE.M_lower (Nat.le_trans HBW.out.size HD6.out.size) (kE.M_mono (fun q hq => hq.2.1) (kE.M_bound h))
      case aK => exact fun q hq => ⟨trivial, fun e' => Nat.lt_irrefl _ (Nat.lt_of_lt_of_le (HOWN.out q e'.symm) hq)⟩
      case aS => exact Nat.le_trans HBW.out.size (Nat.le_trans HD6.out.size HB7.out.size)
      case aL => have h1 := HOUT.out; have h2 := HK.out; have h3 := buildP_len y.1 y.2; omega
      intro v1 w8 ho hb hg hat; rw [HO2.out] at ho; obtain ⟨Az, cz, rfl⟩ := Kd.R_slice ho; have HR7 := Lib.hid (Kd.R_below HRD6.out HB7.out); have HT7 := Lib.hid (Boxed.below HU7.out HB7.out); obtain ⟨z1, z2, z3, z4, z5⟩ := box_Rt HT7.out HR7.out zq34 ho hg hat; have d7 := z1.cell; have g7 := z1.frozen; have HK3 := Lib.hid ((Boxed.below HU3.out HB7.out).kept hg (Kd.R_ne HR7.out (Boxed.below HU3.out HB7.out) zq34)); have HK4 := Lib.hid ((Boxed.below HU4.out HB7.out).kept hg (Kd.R_ne HR7.out (Boxed.below HU4.out HB7.out) zq34)); have HK5 := Lib.hid ((Boxed.below HU5.out HB7.out).kept hg (Kd.R_ne HR7.out (Boxed.below HU5.out HB7.out) zq34)); have HG := Lib.hid hg; have HZ2 := Lib.hid z2; have HZ3 := Lib.hid z3; have HZ4 := Lib.hid z4; have HZ5 := Lib.hid z5; clear z1 z2 z3 z4 z5 ho hb hg hat; refine hK.out _ _ ?_; clear hK K; refine nZ 39 ?_; refine last_ (i := 5) (N := none) #[true, true, true, true, true, true] rfl rfl (one_of HT_.out zq17) zq34 (fun K hK => ?_); refine skip_ (w1 := ?_) (by rfl) rfl ?_ ?_; rotate_left
      ·go_simp
       rfl
      refine hK.out _ _ ?_; clear hK K; refine done_ (done_of HT_.out zq17) ?_; have HY := Lib.hid (((Step.of_below (S := (fun b => OwnS (w3.heap.size + 1) v b ∨ (b = w.heap.size + 1 ∨ b = w.heap.size + 1 + 1))) (HD6.out.trans (HB7.out.mono HD6.out.size))).trans (HZ4.out.wide (fun b => b = w.heap.size + 1 ∨ b = w.heap.size + 1 + 1)))); have HB7w := Lib.hid ((HBW.out.trans (HD6.out.mono HBW.out.size)).trans (HB7.out.mono (Nat.le_trans HBW.out.size HD6.out.size))); have hn4 : w.heap.size + 1 ≠ w3.heap.size + 1 := by have := HSW3.out; omega
      have hn5 : w.heap.size + 1 + 1 ≠ w3.heap.size + 1 := by have := HSW3.out; omega
      have hn3 : w.heap.size ≠ w3.heap.size + 1 := by have := HSW3.out; omega
      have HW4 := Lib.hid (Boxed.other HK4.out hn4 (.slice Az o2.length cz)); have HW5 := Lib.hid (Boxed.other HK5.out hn5 (.slice Az o2.length cz)); have HBF := Lib.hid (Below.setCell (HB7w.out.trans (grown_base HR7.out HG.out HB7w.out.size)) (p := ⟨w3.heap.size + 1, 0, none⟩) (by show _ ≤ w3.heap.size + 1; have := HSW3.out; omega) (.slice Az o2.length cz)); have HYB := Lib.hid (show ∀ b, (fun b => OwnS (w3.heap.size + 1) (.slice Az o2.length cz) b ∨ (b = w.heap.size + 1 ∨ b = w.heap.size + 1 + 1)) b → b < (w8.setCell ⟨w3.heap.size + 1, 0, none⟩ (.slice Az o2.length cz)).heap.size from fun b hb => hb.elim (HZ5.out b) (fun hb => hb.elim (fun h => h.symm ▸ HW4.out.lt) (fun h => h.symm ▸ HW5.out.lt))); gi_wp2; exact ⟨_, HY.out, HYB.out, _, rfl, Boxed.other HK3.out hn3 _, HW4.out, HW5.out, HZ2.out, o2, HZ3.out, HBF.out, HL2.out, HH2.out⟩
    ·have be : (he == 0) = false := beq_eq_false_iff_ne.2 hee
     have HH2 := Lib.hid (show filR hh [] its = ([], he) by rw [HEE.out, HH.out, if_pos hee]); clear hee; have q4 := HQ4.out.cell; have f4 := HQ4.out.frozen; have HQ5' := Lib.hid (Boxed.other HQ5.out (B' := w.heap.size + 1) zq4 (.slice none 0 0)); have q5 := HQ5'.out.cell; have f5 := HQ5'.out.frozen; have HE1 := Lib.hid (((Step.of_below (S := (fun b => OwnS (w3.heap.size + 1) v b ∨ (b = w.heap.size + 1 ∨ b = w.heap.size + 1 + 1))) HB6.out).trans (step_set (.inr (.inl rfl)) (.slice none 0 0))).trans (step_set (.inr (.inr rfl)) (.int .i64 he))); have HE14 := Lib.hid (Boxed.other (HQ4.out.set (.slice none 0 0)) (B' := w.heap.size + 1 + 1) zq4 (.int .i64 he)); have HE15 := Lib.hid (HQ5'.out.set (.int .i64 he)); have HE1W := Lib.hid (Below.setCell (Below.setCell (HBW.out.trans (HB6.out.mono HBW.out.size)) (p := ⟨w.heap.size + 1, 0, none⟩) zq61 (.slice none 0 0)) (p := ⟨w.heap.size + 1 + 1, 0, none⟩) zq52 (.int .i64 he)); gi_wp2; exact ⟨_, HE1.out, fun b hb => Nat.lt_of_lt_of_le (HSB.out b hb) HE1.out.size, rfl, he, HE14.out, HE15.out, HE1W.out, HH2.out⟩
   case done =>
    rintro D S W hD hSD hst hsb ⟨v, out, rfl, bx3, bx4, bx5, bx7, hRo, hBW, hout, hEE⟩ hK; obtain ⟨Av, cv, rfl⟩ := Kd.R_slice hRo; rw [List.drop_length] at hEE; have HEt := Lib.hid (show o = (out, 0) by rw [HO.out, hEE]; rfl); have hD4 : D ≠ w.heap.size + 1 := by have := HS5.out; have := HSW3.out; omega
    have hD5 : D ≠ w.heap.size + 1 + 1 := by have := HS5.out; have := HSW3.out; omega
    have HD := Lib.hid (show w.heap.size ≤ D by have := HS5.out; have := HSW3.out; omega); have cl7 := bx7.cell; have cl4 := bx4.cell; have fr4 := bx4.frozen; have HB4' := Lib.hid (Boxed.other (bx4.set (.slice Av out.length cv)) (B' := w.heap.size + 1 + 1) zq4 (.int .i64 0)); have hb5 := Boxed.other bx5 (B' := w.heap.size + 1) zq4 (.slice Av out.length cv); have cl5 := hb5.cell; have fr5 := hb5.frozen; have HB5' := Lib.hid (hb5.set (.int .i64 0)); have HK2 := Lib.hid (show ((W.setCell ⟨w.heap.size + 1, 0, none⟩ (.slice Av out.length cv)).setCell ⟨w.heap.size + 1 + 1, 0, none⟩ (.int .i64 0)).heap[D]? = some (.deferred (some [])) from ((Below.heap_setCell _ ⟨w.heap.size + 1 + 1, 0, none⟩ (.int .i64 0) D hD5).trans (Below.heap_setCell W ⟨w.heap.size + 1, 0, none⟩ (.slice Av out.length cv) D hD4)).trans hK); have HBY := Lib.hid (Below.setCell (Below.setCell hBW (p := ⟨w.heap.size + 1, 0, none⟩) zq61 (.slice Av out.length cv)) (p := ⟨w.heap.size + 1 + 1, 0, none⟩) zq52 (.int .i64 0)); have HRZ := Lib.hid ((Grow.R D tE w.heap.size (fun _ => True) (.slice Av out.length cv) out).put (.deferred none) (Kd.R_set (Kd.R_set hRo bx4 zq34 0 (.slice Av out.length cv)) hb5 zq34 0 (.int .i64 0)) (Nat.le_refl D) HK2.out rfl); clear hst hsb hSD bx3 bx4 bx5 bx7 hb5 hRo hBW hEE hK; gi_wp2; refine ⟨by simp, .inl ⟨_, _, rfl, run_takeDeferred HK2.out, ?_⟩⟩; refine ⟨_, results_c2 rfl _ _ _ rfl (Boxed.cell (put_boxed HB4'.out hD4.symm _)) (oneC_slice hu22) rfl (Boxed.cell (put_boxed HB5'.out hD5.symm _)) (oneC_int Tryz.underlying27), _, by rw [HEt.out], ?_, below_put (Nat.le_refl _) _ HBY.out HD.out⟩; rw [HEt.out]; exact HRZ.out
   case stop =>
    rintro D c S W hD hSD hst hsb ⟨rfl, e, bx4, bx5, hBW, hEE⟩ hK; have HEt := Lib.hid (show o = ([], e) by rw [HO.out, hEE]); have hD4 : D ≠ w.heap.size + 1 := by have := HS5.out; have := HSW3.out; omega
    have hD5 : D ≠ w.heap.size + 1 + 1 := by have := HS5.out; have := HSW3.out; omega
    have HD := Lib.hid (show w.heap.size ≤ D by have := HS5.out; have := HSW3.out; omega); have HB4' := Lib.hid bx4; have HB5' := Lib.hid bx5; have HBY := Lib.hid hBW; have HK2 := Lib.hid hK; clear hK bx4 bx5 hBW hEE hst hsb hSD; gi_wp2; refine ⟨by simp, .inl ⟨_, _, rfl, run_takeDeferred HK2.out, ?_⟩⟩; refine ⟨_, results_c2 rfl _ _ _ rfl (Boxed.cell (put_boxed HB4'.out hD4.symm _)) (oneC_slice hu22) rfl (Boxed.cell (put_boxed HB5'.out hD5.symm _)) (oneC_int Tryz.underlying27), _, by rw [HEt.out], ?_, below_put (Nat.le_refl _) _ HBY.out HD.out⟩; rw [HEt.out]; exact Kd.R_nil _ _ _ _ _
  ·have be : (ef == 0) = false := beq_eq_false_iff_ne.2 hef
   have HO := Lib.hid (show o = ([], ef) by rw [← ho]; unfold filterP; rw [if_pos hm, if_pos hef]); clear ho hm hef; gi_wp2; refine ⟨trivial, ?_⟩; refine (callsIn_wide.2 (FC.out w2 HB2.out)).mono ?_; rintro e w3 ⟨rfl, hb3⟩; have HB3 := Lib.hid (HB2.out.trans (hb3.mono HB2.out.size)); have hy4 := Boxed.below HX4.out hb3; have hy5 := Boxed.other (Boxed.below HX5.out hb3) (B' := w.heap.size + 1) zq4 (.slice none 0 0); have dl4 := hy4.cell; have gr4 := hy4.frozen; have dl5 := hy5.cell; have gr5 := hy5.frozen; have HZ4 := Lib.hid (Boxed.other (hy4.set (.slice none 0 0)) (B' := w.heap.size + 1 + 1) zq4 (.int .i64 ef)); have HZ5 := Lib.hid (hy5.set (.int .i64 ef)); have HZB := Lib.hid (Below.setCell (Below.setCell HB3.out (p := ⟨w.heap.size + 1, 0, none⟩) zq61 (.slice none 0 0)) (p := ⟨w.heap.size + 1 + 1, 0, none⟩) zq52 (.int .i64 ef)); clear hb3 hy4 hy5; gi_wp2; exact ⟨_, results_c2 rfl _ _ _ rfl HZ4.out.cell (oneC_slice hu22) rfl HZ5.out.cell (oneC_int Tryz.underlying27), _, by rw [HO.out], by rw [HO.out]; exact Kd.R_nil _ _ _ _ _, HZB.out⟩
end Go.Proofs.YtmkgecapkeojaaaGreat.Eg
end
section
namespace Go.Proofs.YtmkgecapkeojaaaGreat.Eg
open Go.Proofs.YtmkgecapkeojaaaGreat Go.Proofs.YtmkgecapkeojaaaGreat.PDa
open Go.RowKit Go.Proofs.YtmkgecapkeojaaaGreatW.PrintWords Go.Proofs.YtmkgecapkeojaaaGreat.Stp Go.Proofs.YtmkgecapkeojaaaGreat.Rw Go.Proofs.YtmkgecapkeojaaaGreat.Cmp
open Go.Proofs.YtmkgecapkeojaaaGreat.EvP (U)
def okE (e : EdP) : Bool := rowMay e.f0 && mayJ [jmpE e]
def stepB (p e : EdP) : Bool := decide (cmpR p.f0 e.f0 < 0) || (decide (cmpR p.f0 e.f0 = 0) && decide (p.f1 < e.f1))
def chainB : EdP → List EdP → Bool
 | _, [] => true
 | p, e :: es => (okE e && stepB p e) && chainB e es
def chain0 : List EdP → Bool
 | [] => true
 | e :: es => okE e && chainB e es
def okj (y : Jp) : Bool := decide (y.f0 < 1125899906842624) && decide (y.f1 ≠ 0) && fairB y.f1
theorem mayL_snoc (x y : Jp) : ∀ (js : List Jp) (a : Int), mayL a (js ++ [x] ++ [y]) = (mayL a (js ++ [x]) && (decide (x.f0 < y.f0) && okj y))
 | [], a => by
  simp only [List.nil_append, List.cons_append, mayL, okj, Bool.and_true]; simp only [Bool.and_assoc]
 | z :: js, a => by
  have := mayL_snoc x y js z.f0; simp only [List.cons_append, mayL]; rw [List.append_assoc] at this; simp only [List.append_assoc, List.cons_append, List.nil_append] at this ⊢; rw [this]; simp only [Bool.and_assoc]
theorem mayL_gt (x : Jp) : ∀ (js : List Jp) (a : Int), mayL a (js ++ [x]) = true → a < x.f0
 | [], a, h => by
  simp only [List.nil_append, mayL, Bool.and_eq_true, decide_eq_true_eq] at h; exact h.1.1.1.1
 | z :: js, a, h => by
  simp only [List.cons_append, mayL, Bool.and_eq_true, decide_eq_true_eq] at h; have := mayL_gt x js z.f0 h.2; omega
theorem mayJ_one (x : Jp) : mayJ [x] = (decide (-2 < x.f0) && okj x) := by
 unfold mayJ okj mayL mayL; simp [Bool.and_assoc]
theorem cmpR_self (r : List Vl) : cmpR r r = 0 := by
 unfold cmpR
 split
 ·rename_i h
  rw [cmpL_rC r r (rowMay_all h) (rowMay_all h)]; exact rC_is.self r
 ·rfl
theorem each_chain : ∀ (es : List EdP) (last : Option (List Vl)) (js : List Jp) (p : EdP), js.length + 1 + es.length ≤ 1024 →
  eachR mayJ last (runAt p.f0 (js ++ [jmpE p]) es) = ((rowMay p.f0 && lastB last p.f0 && mayJ (js ++ [jmpE p])) && chainB p es)
 | [], last, js, p, h => by
  simp [runAt, eachR, chainB]
 | e :: es, last, js, p, h => by
  simp only [List.length_cons] at h; rw [runAt]
  by_cases he : e.f0 = p.f0
  ·rw [if_pos ((eqR_iff _ _).2 he), ← he]
   have ih := each_chain es last (js ++ [jmpE p]) e (by simp; omega); rw [ih, chainB]; have hs : stepB p e = decide (p.f1 < e.f1) := by unfold stepB; rw [← he, cmpR_self]; simp
   have hm1 : mayJ (js ++ [jmpE p] ++ [jmpE e]) = (mayL (-2) (js ++ [jmpE p]) && (decide (p.f1 < e.f1) && okj (jmpE e))) := by
    unfold mayJ; rw [mayL_snoc, decide_eq_true (by simp; omega), Bool.true_and]
    rfl
   have hm2 : mayJ (js ++ [jmpE p]) = mayL (-2) (js ++ [jmpE p]) := by
    unfold mayJ; rw [decide_eq_true (by simp; omega), Bool.true_and]
   have hg : mayL (-2) (js ++ [jmpE p]) = true → decide (p.f1 < e.f1) = true → decide ((-2 : Int) < (jmpE e).f0) = true := fun h1 h2 => by
    have h3 := mayL_gt _ _ _ h1; have h4 := of_decide_eq_true h2; refine decide_eq_true ?_
    show -2 < e.f1
    have : (jmpE p).f0 = p.f1 := rfl; omega
   unfold okE; rw [hs, hm1, hm2, mayJ_one]; generalize mayL (-2) (js ++ [jmpE p]) = M at *; generalize decide (p.f1 < e.f1) = S at *; generalize decide ((-2 : Int) < (jmpE e).f0) = G at *; generalize okj (jmpE e) = O; generalize chainB e es = C; generalize rowMay e.f0 = A; generalize lastB last e.f0 = B; cases A <;> cases B <;> cases M <;> cases S <;> cases G <;> cases O <;> cases C <;> simp_all
  ·rw [if_neg (fun h => he ((eqR_iff _ _).1 h)), eachR, chainB]
   have ih := each_chain es (some p.f0) [] e (by simp; omega); rw [List.nil_append] at ih; rw [ih]; unfold okE lastB stepB; simp only; have hz : rowMay p.f0 = true → rowMay e.f0 = true → decide (cmpR p.f0 e.f0 = 0) = false := fun h1 h2 => by
    rw [cmpR_rC h1 h2]; exact decide_eq_false (fun h => he ((rC_is.zero _ _).1 h).symm)
   generalize decide (cmpR p.f0 e.f0 = 0) = Z at *; generalize decide (cmpR p.f0 e.f0 < 0) = L; generalize decide (p.f1 < e.f1) = S; generalize mayJ [jmpE e] = O; generalize chainB e es = C; generalize rowMay e.f0 = A at *; generalize rowMay p.f0 = A' at *; generalize mayJ (js ++ [jmpE p]) = M; generalize (match last with | none => true | some y => decide (cmpR y p.f0 < 0)) = B; cases A <;> cases A' <;> cases B <;> cases M <;> cases S <;> cases L <;> cases O <;> cases C <;> cases Z <;> simp_all
theorem mayE_chain (l : List EdP) (h : l.length ≤ 1024) : mayE l = chain0 l := by
 unfold mayE eachP; rw [decide_eq_true (by omega), Bool.true_and]; cases l with
 | nil => rfl
 | cons e es =>
  have := each_chain es none [] e (by simp at h ⊢; omega); rw [List.nil_append] at this; rw [runsP, this, chain0]; unfold okE lastB; simp
theorem rdE (l : List EdP) (i : Nat) (h : i < l.length) : rd_T41 l (i : Int) = l[i] := by
 unfold rd_T41; rw [Int.toNat_natCast, List.getD_eq_getElem?_getD, List.getElem?_eq_getElem h]
 rfl
theorem rdR (l : List (List Vl)) (i : Nat) (h : i < l.length) : rd_L3 l (i : Int) = l[i] := by
 unfold rd_L3; rw [Int.toNat_natCast, List.getD_eq_getElem?_getD, List.getElem?_eq_getElem h]
 rfl
theorem wrapN (i : Nat) (h : i ≤ 4611686018427387904) : wrap64 ((i : Int) + 1) = ((i + 1 : Nat) : Int) := by unfold wrap64; omega
theorem may09_one (j : Jp) : U (fun k => r09_May.f k [j]) (mayJ [j]) := by
 unfold r09_May.f; refine EvP.U.neg (by simp) (EvP.U.succ ?_); simp only [r09_May.l0]; have rj : rd_T85 [j] 0 = j := rfl; rw [rj]; refine EvP.U.pos (by simp) (EvP.U.pos (by omega) ?_); have e : mayJ [j] = (decide (-2 < j.f0) && (decide (j.f0 < 1125899906842624) && decide (j.f1 ≠ 0) && fairB j.f1)) := mayJ_one j; have tt : U (fun k => r09_May.j1 k [j] 0 true) false := by
  refine EvP.U.succ ?_; simp only [r09_May.j1]; exact EvP.U.pos (by first | rfl | trivial) (EvP.U.some _)
 by_cases h1 : j.f0 < -1
 ·rw [e, decide_eq_false (show ¬ -2 < j.f0 by omega), Bool.false_and]
  exact EvP.U.pos h1 tt
 ·refine EvP.U.neg h1 ?_
  rw [e, decide_eq_true (show -2 < j.f0 by omega), Bool.true_and]
  by_cases h2 : j.f0 ≥ 1125899906842624
  ·rw [decide_eq_false (show ¬ j.f0 < 1125899906842624 by omega), Bool.false_and, Bool.false_and]
   exact EvP.U.pos h2 tt
  ·refine EvP.U.neg h2 ?_
   rw [decide_eq_true (show j.f0 < 1125899906842624 by omega), Bool.true_and]
   by_cases h3 : j.f1 = 0
   ·rw [decide_eq_false (show ¬ j.f1 ≠ 0 by omega), Bool.false_and]
    exact EvP.U.pos h3 tt
   ·refine EvP.U.neg h3 ?_
    rw [decide_eq_true (show j.f1 ≠ 0 from h3), Bool.true_and]
    by_cases h4 : j.f1 > 1048576
    ·rw [show fairB j.f1 = false by unfold fairB; simp; omega]
     exact EvP.U.pos h4 tt
    ·refine EvP.U.neg h4 (EvP.U.succ ?_)
     simp only [r09_May.j1]
     by_cases h5 : j.f1 < -1048576
     ·rw [show fairB j.f1 = false by unfold fairB; simp; omega]
      exact EvP.U.pos (decide_eq_true h5) (EvP.U.some _)
     ·rw [show fairB j.f1 = true by unfold fairB; simp; omega]
      refine EvP.U.neg (by rw [decide_eq_false h5]; decide) (EvP.U.neg (by omega) (EvP.U.succ ?_)); simp only [r09_May.l0]; exact EvP.U.neg (by simp [wrap64]) (EvP.U.some _)
def jumpsOf (l : List EdP) (r : List Vl) : List Jp := (l.filter fun e => eqR e.f0 r).map jmpE
theorem jumpsOf_len (l : List EdP) (r : List Vl) : (jumpsOf l r).length ≤ l.length := by
 unfold jumpsOf; rw [List.length_map]; exact List.length_filter_le _ _
theorem jumps_l0 (l : List EdP) (r : List Vl) (hr : ∀ e ∈ l, e.f0.length ≤ 4398046511104) (hl : l.length ≤ 1000000) : ∀ (m i : Nat) (acc : List Jp), l.length - i = m → i ≤ l.length → acc.length ≤ i →
  U (fun k => r10_Jumps.l0 k l r acc (i : Int)) (acc ++ jumpsOf (l.drop i) r)
 | m, i, acc, hm, hi, ha => by
  refine EvP.U.succ ?_; simp only [r10_Jumps.l0]
  by_cases c : i < l.length
  ·refine EvP.U.pos (by omega) (EvP.U.pos (by omega) ?_)
   rw [rdE l i c, wrapN i (by omega)]; refine EvP.U.bind (same06 l[i].f0 r (hr _ (List.getElem_mem c))) ?_; have hd : l.drop i = l[i] :: l.drop (i + 1) := List.drop_eq_getElem_cons c; cases he : eqR l[i].f0 r with
   | true =>
    refine EvP.U.pos (by first | rfl | trivial) (EvP.U.pos (by omega) ?_); have e : acc ++ jumpsOf (l.drop i) r = (acc ++ [jmpE l[i]]) ++ jumpsOf (l.drop (i + 1)) r := by
     rw [hd]; unfold jumpsOf; rw [List.filter_cons, if_pos he]; simp
    rw [e]
    match m, hm with
    | 0, hm => omega
    | m + 1, hm => exact jumps_l0 l r hr hl m (i + 1) _ (by omega) (by omega) (by simp; omega)
   | false =>
    refine EvP.U.neg (by decide) ?_; have e : acc ++ jumpsOf (l.drop i) r = acc ++ jumpsOf (l.drop (i + 1)) r := by
     rw [hd]; unfold jumpsOf; rw [List.filter_cons, if_neg (by rw [he]; decide)]
    rw [e]
    match m, hm with
    | 0, hm => omega
    | m + 1, hm => exact jumps_l0 l r hr hl m (i + 1) _ (by omega) (by omega) (by omega)
  ·refine EvP.U.neg (by omega) ?_
   rw [List.drop_eq_nil_of_le (by omega)]; exact EvP.U.congr_r (EvP.U.some _) (by simp [jumpsOf])
theorem jumps10 (l : List EdP) (r : List Vl) (hr : ∀ e ∈ l, e.f0.length ≤ 4398046511104) (hl : l.length ≤ 1000000) : U (fun k => r10_Jumps.f k l r) (jumpsOf l r) := by
 have := jumps_l0 l r hr hl _ 0 [] rfl (Nat.zero_le _) (Nat.zero_le _); unfold r10_Jumps.f
 simpa using this
end Go.Proofs.YtmkgecapkeojaaaGreat.Eg
end
section
namespace Go.Proofs.YtmkgecapkeojaaaGreat.Eg
open Go.Proofs.YtmkgecapkeojaaaGreat Go.Proofs.YtmkgecapkeojaaaGreat.PDa
open Go.RowKit Go.Proofs.YtmkgecapkeojaaaGreatW.PrintWords Go.Proofs.YtmkgecapkeojaaaGreatW.PrintLast Go.Proofs.YtmkgecapkeojaaaGreatW.PrintMore
open Go.Proofs.YtmkgecapkeojaaaGreat.SortM Go.Proofs.YtmkgecapkeojaaaGreat.Run Go.Proofs.YtmkgecapkeojaaaGreat.Stp Go.Proofs.YtmkgecapkeojaaaGreat.Rw
attribute [local go_sem] Oper.semAt_some
def becR (bb : List Vl → List Vl × Int) (out : List EdP) : List (List Vl × List Jp) → List EdP × Int
 | [] => (out, 0)
 | x :: xs => if (bb x.1).2 ≠ 0 then ([], (bb x.1).2) else becR bb (out ++ buildP (bb x.1).1 x.2) xs
theorem becR_drop (bb : List Vl → List Vl × Int) (out : List EdP) (l : List (List Vl × List Jp)) (k : Nat) (x : List Vl × List Jp) (h : l[k]? = some x) :
  becR bb out (l.drop k) = if (bb x.1).2 ≠ 0 then ([], (bb x.1).2) else becR bb (out ++ buildP (bb x.1).1 x.2) (l.drop (k + 1)) := by
 obtain ⟨hk, hx⟩ := List.getElem?_eq_some_iff.1 h; rw [List.drop_eq_getElem_cons hk, hx, becR]
def BecIs (bb : List Vl → List Vl × Int) (l : List EdP) (r : List EdP × Int) : Prop :=
 ((becR bb [] (runsP l)).2 ≠ 0 ∧ r = ([], (becR bb [] (runsP l)).2)) ∨ ((becR bb [] (runsP l)).2 = 0 ∧ NormIs (becR bb [] (runsP l)).1 r)
def bec.T8 : Bool × List (List Nat × List Nat) := (true, [([], []), ([], []), ([], []), ([1, 2], [1, 2]), ([0, 3, 3], [0, 3]), ([4, 4, 0, 1, 2, 3, 4], [4])])
def bec.B8 : List Nat := [0, 0, 0, 6, 15, 31]
theorem bec.tab8 : rtab .any (opsOf Tryz.f54 8) = bec.T8 := by kernel_rfl
theorem bec.bits8 : waitsOk bec.T8.2 bec.B8 = true := by kernel_rfl
theorem become_calls (bb : List Vl → List Vl × Int) (fn : Nat) (cap : Array Value) (A0 : Option Addr) (c0 : Nat) (l : List EdP) (w : World) (hr0 : Kd.C kE w A0 l.length l) (hmay : mayE l = true) (hrow : ∀ e ∈ l, e.f0.length ≤ 4398046511104)
  (hfn : ∀ args w, (callFunc fn args).run Tryz.prog w = .ok (.enter fn args) w)
  (hby : ∀ (e0 : EdP), e0 ∈ l → ∀ (A : Option Addr) (c : Nat) (W1 : World), Below w.heap.size w W1 → Kd.R kV tV W1 0 (fun _ => True) (.slice A e0.f0.length c) e0.f0 →
   Calls Tryz.prog fn (#[.slice A e0.f0.length c] ++ cap) W1 fun e w' => ∃ v, e = .returned (.tuple #[v, .int .i64 (bb e0.f0).2]) ∧ Kd.R kV tV w' 0 (fun _ => True) v (bb e0.f0).1 ∧ Below W1.heap.size W1 w') :
  Calls Tryz.prog 54 #[.slice A0 l.length c0, .func (.func fn) #[] cap] w fun e w' => ∃ v r, BecIs bb l r ∧ e = .returned (.tuple #[v, .int .i64 r.2]) ∧ Kd.R kE tE w' w.heap.size (fun _ => True) v r.1 ∧ Below w.heap.size w w' := by
 have hu22 : Tryz.prog.underlying 22 = some (.slice 41) := by kernel_rfl
 have RC := Lib.hid (Groups_calls A0 c0 l.length); have HR := Lib.hid hr0; have HRW := Lib.hid hrow; have HM := Lib.hid hmay; have HBY := Lib.hid hby
 clear hr0 hrow hby hmay; refine (callsIn_wide (n := 12)).1 ?_; refine callsIn_of_wp_marks Tryz.func54 rfl trivial ?_ rfl; simp only [Tryz.ntmps54, List.size_toArray, List.length_cons, List.length_nil, Nat.reduceAdd, Nat.reduceSub, Array.replicate_succ, Array.replicate_zero, List.push_toArray, List.append_toArray, List.nil_append, List.cons_append]
 gi_wp2_with (refine ⟨trivial, ?_⟩; (with_reducible refine (callsIn_wide.2 (RC.out _)).mono ?_); rintro e w1 ⟨rfl, rfl⟩)
 obtain ⟨W1, hW1⟩ : ∃ W1, ((((w.alloc (.cells #[.func (.func fn) #[] cap] 78 (0, 0))).alloc (.cells #[.slice none 0 0] 22 (0, 0))).alloc (.cells #[.int .i64 0] 27 (0, 0))).alloc (.cells #[] 41 (0, 0))).alloc (.cells #[.slice (some ⟨w.heap.size + 1 + 1 + 1, 0, none⟩) 0 0] 22 (0, 0)) = W1 := ⟨_, rfl⟩
 have hsW1 : W1.heap.size = w.heap.size + 5 := by rw [← hW1]; simp
 have hbW1 : Below w.heap.size w W1 := by rw [← hW1]; exact below_alloc (below_alloc (below_alloc (below_alloc (below_alloc (Below.refl _ w) _) _) _) _) _
 have bx3 : W1.heap[w.heap.size]? = some (.cells #[.func (.func fn) #[] cap] 78 (0, 0)) := by
  have h1 := blk_new (w) (.cells #[.func (.func fn) #[] cap] 78 (0, 0)); rw [← hW1]; exact blk_alloc (blk_alloc (blk_alloc (blk_alloc (h1) _) _) _) _
 have bx4 : W1.heap[w.heap.size + 1]? = some (.cells #[.slice none 0 0] 22 (0, 0)) := by
  have h1 := blk_new (w.alloc (.cells #[.func (.func fn) #[] cap] 78 (0, 0))) (.cells #[.slice none 0 0] 22 (0, 0)); rw [World.size_alloc] at h1; rw [← hW1]; exact blk_alloc (blk_alloc (blk_alloc (h1) _) _) _
 have bx5 : W1.heap[w.heap.size + 1 + 1]? = some (.cells #[.int .i64 0] 27 (0, 0)) := by
  have h1 := blk_new ((w.alloc (.cells #[.func (.func fn) #[] cap] 78 (0, 0))).alloc (.cells #[.slice none 0 0] 22 (0, 0))) (.cells #[.int .i64 0] 27 (0, 0)); rw [World.size_alloc, World.size_alloc] at h1; rw [← hW1]; exact blk_alloc (blk_alloc (h1) _) _
 have bk0 : W1.heap[w.heap.size + 1 + 1 + 1]? = some (.cells #[] 41 (0, 0)) := by
  have h1 := blk_new (((w.alloc (.cells #[.func (.func fn) #[] cap] 78 (0, 0))).alloc (.cells #[.slice none 0 0] 22 (0, 0))).alloc (.cells #[.int .i64 0] 27 (0, 0))) (.cells #[] 41 (0, 0)); rw [World.size_alloc, World.size_alloc, World.size_alloc] at h1; rw [← hW1]; exact blk_alloc (h1) _
 have bx6 : W1.heap[w.heap.size + 1 + 1 + 1 + 1]? = some (.cells #[.slice (some ⟨w.heap.size + 1 + 1 + 1, 0, none⟩) 0 0] 22 (0, 0)) := by
  have h1 := blk_new ((((w.alloc (.cells #[.func (.func fn) #[] cap] 78 (0, 0))).alloc (.cells #[.slice none 0 0] 22 (0, 0))).alloc (.cells #[.int .i64 0] 27 (0, 0))).alloc (.cells #[] 41 (0, 0))) (.cells #[.slice (some ⟨w.heap.size + 1 + 1 + 1, 0, none⟩) 0 0] 22 (0, 0)); rw [World.size_alloc, World.size_alloc, World.size_alloc, World.size_alloc] at h1; rw [← hW1]; exact h1
 have hit := groups_iter 11 zq4 A0 c0 l w W1 HR.out hbW1 HM.out HRW.out; obtain ⟨its, hits⟩ : ∃ x, runsP l = x := ⟨_, rfl⟩
 have HIM := Lib.hid (fun x (h : x ∈ its) => runs_mem l x (by rw [hits]; exact h)); have HIL := Lib.hid (show its.length ≤ 4096 by rw [← hits]; exact Nat.le_trans (runs_len l) (mayE_len HM.out)); have HE := Lib.hid hits; rw [hits] at hit; have HBI := Lib.hid (fun r (h : (((becR bb [] its).2 ≠ 0 ∧ r = ([], (becR bb [] its).2)) ∨ ((becR bb [] its).2 = 0 ∧ NormIs (becR bb [] its).1 r))) => (show BecIs bb l r by unfold BecIs; rw [hits]; exact h)); have e5 : w.heap.size + 1 + 1 + 1 + 1 + 1 = W1.heap.size := by omega
 rw [hW1, e5]; obtain ⟨W2, hW2⟩ : ∃ W2, W1.alloc (.cells #[.slice A0 l.length c0] 22 (0, 0)) = W2 := ⟨_, rfl⟩
 have HS2 := Lib.hid (show W2.heap.size = w.heap.size + 6 by rw [← hW2, World.size_alloc, hsW1]); have HS1 := Lib.hid hsW1; have HB2 := Lib.hid (show Below w.heap.size w W2 by rw [← hW2]; exact below_alloc hbW1 _); have HX3 := Lib.hid (show Boxed W2 w.heap.size 78 (.func (.func fn) #[] cap) by rw [← hW2]; exact blk_alloc bx3 _); have HX4 := Lib.hid (show Boxed W2 (w.heap.size + 1) 22 (.slice none 0 0) by rw [← hW2]; exact blk_alloc bx4 _); have HX5 := Lib.hid (show Boxed W2 (w.heap.size + 1 + 1) 27 (.int .i64 0) by rw [← hW2]; exact blk_alloc bx5 _); have HX6 := Lib.hid (show Boxed W2 (w.heap.size + 1 + 1 + 1 + 1) 22 (.slice (some ⟨w.heap.size + 1 + 1 + 1, 0, none⟩) 0 0) by rw [← hW2]; exact blk_alloc bx6 _); have HO2 := Lib.hid (show Kd.R kE tE W2 w.heap.size (fun _ => True) (.slice (some ⟨w.heap.size + 1 + 1 + 1, 0, none⟩) 0 0) [] from ⟨fun _ _ => trivial, [], ⟨rfl, .inr ⟨w.heap.size + 1 + 1 + 1, 0, #[], rfl, by omega, by rw [← hW2]; exact blk_alloc bk0 _, Nat.le_refl _, Nat.zero_le _, rfl, rfl⟩⟩, Reps.none _ _⟩); rw [hW2] at hit ⊢; have HIT := Lib.hid hit; clear hW1 hW2 hsW1 hbW1 bx3 bx4 bx5 bx6 bk0 hit e5 hits; have hS0 : ∀ b, (fun b => OwnS (w.heap.size + 1 + 1 + 1 + 1) (.slice (some ⟨w.heap.size + 1 + 1 + 1, 0, none⟩) 0 0) b ∨ (b = w.heap.size + 1 ∨ b = w.heap.size + 1 + 1)) b → ¬ (b < w.heap.size ∨ b = W1.heap.size) ∧ b < W2.heap.size := by
  intro b hb; have h1 := HS1.out; have h2 := HS2.out
  rcases hb with (rfl | hb) | hb
  ·omega
  ·have : w.heap.size + 1 + 1 + 1 = b := by simpa [Value.ownBlock] using hb
   omega
  ·omega
 refine range_outer (F := Fence.wide) rfl zq4 (gf := 84) (lb := #[.pointer (some ⟨W1.heap.size, 0, none⟩)]) rfl trivial (enters_of Tryz.func84 zq17 rfl) HIT.out (Keeps.refl _ _) (fun x args W h => by obtain ⟨_, _, _, _, rfl, _⟩ := h; rfl)
  (fun k S W => ∃ v out, S = (fun b => OwnS (w.heap.size + 1 + 1 + 1 + 1) (v) b ∨ (b = w.heap.size + 1 ∨ b = w.heap.size + 1 + 1)) ∧ Boxed W w.heap.size 78 (.func (.func fn) #[] cap) ∧ Boxed W (w.heap.size + 1) 22 (.slice none 0 0) ∧ Boxed W (w.heap.size + 1 + 1) 27 (.int .i64 0) ∧
   Boxed W (w.heap.size + 1 + 1 + 1 + 1) 22 v ∧ Kd.R kE tE W w.heap.size (fun _ => True) v out ∧ Below w.heap.size w W ∧ (out.length ≤ k * 1024 ∧ becR bb [] its = becR bb out (its.drop k)))
  (fun c S W => c = .ret ∧ ∃ e, Boxed W (w.heap.size + 1) 22 (.slice none 0 0) ∧ Boxed W (w.heap.size + 1 + 1) 27 (.int .i64 e) ∧ Below w.heap.size w W ∧ becR bb [] its = ([], e) ∧ e ≠ 0)
  (fun x args a' W => ∃ Ar cr Aj cj, args = #[.slice Ar x.1.length cr, .slice Aj x.2.length cj] ∧ a' = { tmps := #[.slice A0 l.length c0, .func (.func fn) #[] cap, undef, .pointer (some ⟨w.heap.size, 0, none⟩), .pointer (some ⟨w.heap.size + 1, 0, none⟩), .pointer (some ⟨w.heap.size + 1 + 1, 0, none⟩), .pointer (some ⟨w.heap.size + 1 + 1 + 1 + 1, 0, none⟩), .slice Ar x.1.length cr, .slice Aj x.2.length cj, undef, undef, .slice (some ⟨w.heap.size + 1 + 1 + 1, 0, none⟩) 0 0, .slice A0 l.length c0, .func (.func 84) #[] #[.pointer (some ⟨W1.heap.size, 0, none⟩)], .slice Ar x.1.length cr, .slice Aj x.2.length cj, undef, undef, undef, undef, undef, undef, undef, undef, undef, undef, undef, undef, undef, undef, undef, undef, undef, undef], defers := [] })
  (fun k S => Grow.ex fun v => Grow.ex fun out => (Grow.const _ _).and ((Grow.boxed _ _ _ _).and ((Grow.boxed _ _ _ _).and ((Grow.boxed _ _ _ _).and ((Grow.boxed _ _ _ _).and ((Grow.R _ _ _ _ _ _).and ((Grow.base (by have := HS2.out; omega) w (Nat.le_refl _)).and (Grow.const _ _))))))))
  (fun c S => (Grow.const _ _).and (Grow.ex fun e => (Grow.boxed _ _ _ _).and ((Grow.boxed _ _ _ _).and ((Grow.base (by have := HS2.out; omega) w (Nat.le_refl _)).and (Grow.const _ _))))) (fun x args => Grow.phi _ _ _)
  (fun x args a' => Grow.const _ _)
  (fun b => OwnS (w.heap.size + 1 + 1 + 1 + 1) (.slice (some ⟨w.heap.size + 1 + 1 + 1, 0, none⟩) 0 0) b ∨ (b = w.heap.size + 1 ∨ b = w.heap.size + 1 + 1)) hS0 ⟨_, [], rfl, HX3.out, HX4.out, HX5.out, HX6.out, HO2.out, HB2.out, Nat.zero_le _, by rw [List.drop_zero]⟩ ?assign ?body ?done ?stop
 case assign =>
  rintro l' k S x args W K hx hi ⟨Ar, cr, Aj, cj, rfl, hphi⟩ hK; clear hi hphi; gi_wp2; exact hK _ _ (Below.refl _ W) ⟨Ar, cr, Aj, cj, rfl, rfl⟩
 case body =>
  rintro l' k S x args a' W hl' ⟨r, hr⟩ hx hSb hSl hkR ⟨v, out, rfl, bx3, bx4, bx5, bx6, hRo, hBW, hout, hEE⟩ ⟨Ar, cr, Aj, cj, he1, hRr, hRj⟩ ⟨Ar2, cr2, Aj2, cj2, he2, rfl⟩; rw [he1] at he2; cases he2; dsimp only []; have hxm := HIM.out x (List.mem_of_getElem? hx); have HH := Lib.hid (becR_drop bb out its k x hx); obtain ⟨e0, he0, hy1⟩ := hxm.1; have HK := Lib.hid (show k < 4096 by have h1 := (List.getElem?_eq_some_iff.1 hx).1; have := HIL.out; omega); have HV := Lib.hid (fun (w1 : World) (h : Below W.heap.size W w1) => HBY.out e0 he0 Ar cr w1 (hBW.trans (h.mono hBW.size)) (by rw [← hy1]; exact Kd.R_below hRr h)); rw [← hy1] at HV; obtain ⟨⟨sr, he⟩, hhb⟩ : ∃ z, bb x.1 = z := ⟨_, rfl⟩
  rw [hhb] at HV HH; have HRJ := Lib.hid hRj; have HBX3 := Lib.hid bx3; have HBX4 := Lib.hid bx4; have HBX5 := Lib.hid bx5; have HBX6 := Lib.hid bx6; have HRO := Lib.hid hRo; have HBW := Lib.hid hBW; have HEE := Lib.hid hEE; have HOUT := Lib.hid hout; have HSB := Lib.hid hSb; have cl3 := bx3.cell; clear hRr hRj bx3 bx4 bx5 bx6 hBW hEE hx he1 hSb hSl hkR hr hl' hRo hout hxm hhb hy1 he0; gi_wp2; refine ⟨trivial, ?_⟩; refine (CallsIn.inRound l' (callsIn_wide.2 (HV.out _ (Below.refl _ W)))).mono ?_; rintro e w6 ⟨vs, rfl, hRs, hb6⟩; obtain ⟨As, cs, rfl⟩ := Kd.R_slice hRs; have HRS := Lib.hid hRs; have HB6 := Lib.hid hb6; clear hb6 hRs; have HQ3 := Lib.hid (Boxed.below HBX3.out HB6.out); have HQ4 := Lib.hid (Boxed.below HBX4.out HB6.out); have HQ5 := Lib.hid (Boxed.below HBX5.out HB6.out); have HQ7 := Lib.hid (Boxed.below HBX6.out HB6.out)
  by_cases hee : he = 0
  ·have be : (he == 0) = true := by rw [hee]; rfl
   have HH2 := Lib.hid (show becR bb [] its = becR bb (out ++ buildP sr x.2) (its.drop (k + 1)) by rw [HEE.out, HH.out, if_neg (by simp [hee])]); clear hee; obtain ⟨o2, ho2⟩ : ∃ o2, out ++ buildP sr x.2 = o2 := ⟨_, rfl⟩
   have HL2 := Lib.hid (show o2.length ≤ (k + 1) * 1024 by have h1 := HOUT.out; have h3 := buildP_len sr x.2; rw [← ho2, List.length_append]; omega); rw [ho2] at HH2; have HO2 := Lib.hid ho2; clear ho2; gi_wp2; have HD6 := Lib.hid (below_drew1 HB6.out); have c7 : w6.drew.cell? ⟨w.heap.size + 1 + 1 + 1 + 1, 0, none⟩ = some v := HQ7.out.cell; have HU3 := Lib.hid (show Boxed w6.drew w.heap.size 78 (.func (.func fn) #[] cap) from HQ3.out); have HU4 := Lib.hid (show Boxed w6.drew (w.heap.size + 1) 22 (.slice none 0 0) from HQ4.out); have HU5 := Lib.hid (show Boxed w6.drew (w.heap.size + 1 + 1) 27 (.int .i64 0) from HQ5.out); have HU7 := Lib.hid (show Boxed w6.drew (w.heap.size + 1 + 1 + 1 + 1) 22 v from HQ7.out); have HRD6 := Lib.hid (Kd.R_below HRO.out HD6.out); have HRSD := Lib.hid (Kd.R_drew HRS.out); have HRJD := Lib.hid (Kd.R_below HRJ.out HD6.out); have HOWN := Lib.hid (fun b (h : v.ownBlock = some b) => (own_ltR HRD6.out h).2); clear HQ3 HQ4 HQ5 HQ7 HB6 cl3; refine startIn_ (m := 6) (S := fun w' => w'.cell? ⟨w.heap.size + 1 + 1 + 1 + 1, 0, none⟩ = some v) (ds := [4, 5]) (fun ⟨_, _, h⟩ => h) zq17 #[false, false, false, false, false, false] zq17 rfl rfl (c7) (fun hHeld => ?_); refine with_tabW bec.tab8 bec.bits8 (fun HT_ HW_ => ?_); generalize w6.drew = wD at c7 HD6 HU3 HU4 HU5 HU7 HRD6 HOWN HRSD HRJD hHeld ⊢; refine pZ 1 26 ?_; refine pZ 2 27 ?_; refine take_ (i := 0) (N := some 25) (v := ?_) (a' := ?_) #[true, true, true, false, false, false] rfl rfl (take_ofW HT_.out HW_.out zq17) (fun _ _ _ h => h) (Or.inl ⟨by rfl, ?_⟩) hHeld ?_ ?_; rotate_left
   ·intro w' s0
    go_simp
    with_reducible rfl
   rotate_left
   ·simp only [Act.put, List.setIfInBounds_toArray, List.set_cons_zero, List.set_cons_succ, i64_w, i32_w]
    rfl
   refine oZ 3 28 (fun K hK => ?_); refine goes_ Tryz.func49 zq17 rfl #[.slice As sr.length cs, .slice Aj x.2.length cj] (by rfl) rfl rfl zq67 ?_
   with_reducible refine (Build_calls As cs sr Aj cj x.2 wD HRSD.out HRJD.out).mono ?_
   rintro e w7 ⟨vb, rfl, hRb, hb7⟩; refine ⟨_, rfl, ?_⟩; obtain ⟨Ab, cb, rfl, hcb, hRd⟩ := OwnRow.reads hRb.2; have HRD := Lib.hid hRd; have HB7 := Lib.hid hb7; clear hRb hcb hRd hb7; refine hK.out _ _ (pw_cell_below HB7.out c7) (fun hHeld => ?_); clear hK K; refine nZ 28 ?_; refine last_ (i := 4) (N := some 29) #[true, true, true, true, true, false] rfl rfl (one_of HT_.out zq17) zq34 (fun K hK => ?_); refine Kd.R_append_rows_step kE (w0 := w7) w.heap.size (by rfl) (.tmp 25) (.tmp 28) 22 41 (.agg #[.slice none 0 0, (.int .i64 0), (.int .i64 0)]) 40 rfl hu22 info41 rfl zq34 zq4 v out (buildP sr x.2) _ _ _ (fun _ => True) (fun k => wD.heap.size ≤ k) rfl rfl ?aO HRD.out ?aM ?aK (fun _ _ => trivial) (Below.refl _ _) ?aS ?aL ?_
   case aO => exact Kd.R_below HRD6.out HB7.out
   case aM => exact fun z cs h => kE.M_lower (Nat.le_trans HBW.out.size HD6.out.size) (kE.M_mono (fun q hq => hq.2.1) (kE.M_bound h))
   case aK => exact fun q hq => ⟨trivial, fun e' => Nat.lt_irrefl _ (Nat.lt_of_lt_of_le (HOWN.out q e'.symm) hq)⟩
   case aS => exact Nat.le_trans HBW.out.size (Nat.le_trans HD6.out.size HB7.out.size)
   case aL => have h1 := HOUT.out; have h2 := HK.out; have h3 := buildP_len sr x.2; omega
   intro v1 w8 ho hb hg hat; rw [HO2.out] at ho; obtain ⟨Az, cz, rfl⟩ := Kd.R_slice ho; have HR7 := Lib.hid (Kd.R_below HRD6.out HB7.out); have HT7 := Lib.hid (Boxed.below HU7.out HB7.out); obtain ⟨z1, z2, z3, z4, z5⟩ := box_Rt HT7.out HR7.out zq34 ho hg hat; have d7 := z1.cell; have g7 := z1.frozen; have HK3 := Lib.hid ((Boxed.below HU3.out HB7.out).kept hg (Kd.R_ne HR7.out (Boxed.below HU3.out HB7.out) zq34)); have HK4 := Lib.hid ((Boxed.below HU4.out HB7.out).kept hg (Kd.R_ne HR7.out (Boxed.below HU4.out HB7.out) zq34)); have HK5 := Lib.hid ((Boxed.below HU5.out HB7.out).kept hg (Kd.R_ne HR7.out (Boxed.below HU5.out HB7.out) zq34)); have HG := Lib.hid hg; have HZ2 := Lib.hid z2; have HZ3 := Lib.hid z3; have HZ4 := Lib.hid z4; have HZ5 := Lib.hid z5; clear z1 z2 z3 z4 z5 ho hb hg hat; refine hK.out _ _ ?_; clear hK K; refine nZ 29 ?_; refine last_ (i := 5) (N := none) #[true, true, true, true, true, true] rfl rfl (one_of HT_.out zq17) zq34 (fun K hK => ?_); refine skip_ (w1 := ?_) (by rfl) rfl ?_ ?_; rotate_left
   ·go_simp
    rfl
   refine hK.out _ _ ?_; clear hK K; refine done_ (done_of HT_.out zq17) ?_; have HY := Lib.hid (((Step.of_below (S := (fun b => OwnS (w.heap.size + 1 + 1 + 1 + 1) v b ∨ (b = w.heap.size + 1 ∨ b = w.heap.size + 1 + 1))) (HD6.out.trans (HB7.out.mono HD6.out.size))).trans (HZ4.out.wide (fun b => b = w.heap.size + 1 ∨ b = w.heap.size + 1 + 1)))); have HB7w := Lib.hid ((HBW.out.trans (HD6.out.mono HBW.out.size)).trans (HB7.out.mono (Nat.le_trans HBW.out.size HD6.out.size))); have hn4 : w.heap.size + 1 ≠ w.heap.size + 1 + 1 + 1 + 1 := by omega
   have hn5 : w.heap.size + 1 + 1 ≠ w.heap.size + 1 + 1 + 1 + 1 := by omega
   have hn3 : w.heap.size ≠ w.heap.size + 1 + 1 + 1 + 1 := by omega
   have HW4 := Lib.hid (Boxed.other HK4.out hn4 (.slice Az o2.length cz)); have HW5 := Lib.hid (Boxed.other HK5.out hn5 (.slice Az o2.length cz)); have HBF := Lib.hid (Below.setCell (HB7w.out.trans (grown_base HR7.out HG.out HB7w.out.size)) (p := ⟨w.heap.size + 1 + 1 + 1 + 1, 0, none⟩) (by show _ ≤ w.heap.size + 1 + 1 + 1 + 1; omega) (.slice Az o2.length cz)); have HYB := Lib.hid (show ∀ b, (fun b => OwnS (w.heap.size + 1 + 1 + 1 + 1) (.slice Az o2.length cz) b ∨ (b = w.heap.size + 1 ∨ b = w.heap.size + 1 + 1)) b → b < (w8.setCell ⟨w.heap.size + 1 + 1 + 1 + 1, 0, none⟩ (.slice Az o2.length cz)).heap.size from fun b hb => hb.elim (HZ5.out b) (fun hb => hb.elim (fun h => h.symm ▸ HW4.out.lt) (fun h => h.symm ▸ HW5.out.lt))); gi_wp2; exact ⟨_, HY.out, HYB.out, _, rfl, Boxed.other HK3.out hn3 _, HW4.out, HW5.out, HZ2.out, o2, HZ3.out, HBF.out, HL2.out, HH2.out⟩
  ·have be : (he == 0) = false := beq_eq_false_iff_ne.2 hee
   have HNE := Lib.hid hee; have HH2 := Lib.hid (show becR bb [] its = ([], he) by rw [HEE.out, HH.out, if_pos hee]); clear hee; have q4 := HQ4.out.cell; have f4 := HQ4.out.frozen; have HQ5' := Lib.hid (Boxed.other HQ5.out (B' := w.heap.size + 1) zq4 (.slice none 0 0)); have q5 := HQ5'.out.cell; have f5 := HQ5'.out.frozen; have HE1 := Lib.hid (((Step.of_below (S := (fun b => OwnS (w.heap.size + 1 + 1 + 1 + 1) v b ∨ (b = w.heap.size + 1 ∨ b = w.heap.size + 1 + 1))) HB6.out).trans (step_set (.inr (.inl rfl)) (.slice none 0 0))).trans (step_set (.inr (.inr rfl)) (.int .i64 he))); have HE14 := Lib.hid (Boxed.other (HQ4.out.set (.slice none 0 0)) (B' := w.heap.size + 1 + 1) zq4 (.int .i64 he)); have HE15 := Lib.hid (HQ5'.out.set (.int .i64 he)); have HE1W := Lib.hid (Below.setCell (Below.setCell (HBW.out.trans (HB6.out.mono HBW.out.size)) (p := ⟨w.heap.size + 1, 0, none⟩) zq61 (.slice none 0 0)) (p := ⟨w.heap.size + 1 + 1, 0, none⟩) zq52 (.int .i64 he)); gi_wp2; exact ⟨_, HE1.out, fun b hb => Nat.lt_of_lt_of_le (HSB.out b hb) HE1.out.size, rfl, he, HE14.out, HE15.out, HE1W.out, HH2.out, HNE.out⟩
 case done =>
  rintro D S W hD hSD hst hsb ⟨v, out, rfl, bx3, bx4, bx5, bx6, hRo, hBW, hout, hEE⟩ hK; obtain ⟨Av, cv, rfl⟩ := Kd.R_slice hRo; rw [List.drop_length] at hEE; have hEE2 : becR bb [] its = (out, 0) := hEE; have HBI2 := Lib.hid (fun r (h : NormIs out r) => HBI.out r (.inr ⟨by rw [hEE2], by rw [hEE2]; exact h⟩)); have hD4 : D ≠ w.heap.size + 1 := by have := HS2.out; omega
  have hD5 : D ≠ w.heap.size + 1 + 1 := by have := HS2.out; omega
  have HD := Lib.hid (show w.heap.size ≤ D by have := HS2.out; omega); have cl6 := bx6.cell; have HX4D := Lib.hid bx4; have HX5D := Lib.hid bx5; have HBWD := Lib.hid hBW; have HKD := Lib.hid hK; have NC := Lib.hid (NormE_calls Av cv out W (Kd.R_reads' hRo).2.2 (by have := HIL.out; omega)); clear hst hsb hSD bx3 bx4 bx5 bx6 hBW hEE hEE2 hRo hK; gi_wp2; refine ⟨trivial, ?_⟩; refine (callsIn_wide.2 NC.out).mono ?_; rintro e w7 ⟨vn, rn, hnorm, rfl, hRn, hb7⟩; obtain ⟨An, cn, rfl⟩ := Kd.R_slice hRn; have HRES := Lib.hid (HBI2.out rn hnorm); have bx4 := Boxed.below HX4D.out hb7; have bx5 := Boxed.below HX5D.out hb7; have hK7 : w7.heap[D]? = some (.deferred (some [])) := (hb7.block D (Array.getElem?_eq_some_iff.1 HKD.out).1).trans HKD.out; have hBW7 := HBWD.out.trans (hb7.mono HBWD.out.size); have hRo := Kd.R_lower hRn HBWD.out.size; have cl4 := bx4.cell; have fr4 := bx4.frozen; have HB4' := Lib.hid (Boxed.other (bx4.set (.slice An rn.1.length cn)) (B' := w.heap.size + 1 + 1) zq4 (.int .i64 rn.2)); have hb5 := Boxed.other bx5 (B' := w.heap.size + 1) zq4 (.slice An rn.1.length cn); have cl5 := hb5.cell; have fr5 := hb5.frozen; have HB5' := Lib.hid (hb5.set (.int .i64 rn.2)); have HK2 := Lib.hid (show ((w7.setCell ⟨w.heap.size + 1, 0, none⟩ (.slice An rn.1.length cn)).setCell ⟨w.heap.size + 1 + 1, 0, none⟩ (.int .i64 rn.2)).heap[D]? = some (.deferred (some [])) from ((Below.heap_setCell _ ⟨w.heap.size + 1 + 1, 0, none⟩ (.int .i64 rn.2) D hD5).trans (Below.heap_setCell w7 ⟨w.heap.size + 1, 0, none⟩ (.slice An rn.1.length cn) D hD4)).trans hK7); have HBY' := Lib.hid (Below.setCell (Below.setCell hBW7 (p := ⟨w.heap.size + 1, 0, none⟩) zq61 (.slice An rn.1.length cn)) (p := ⟨w.heap.size + 1 + 1, 0, none⟩) zq52 (.int .i64 rn.2)); have HRZ := Lib.hid ((Grow.R D tE w.heap.size (fun _ => True) (.slice An rn.1.length cn) rn.1).put (.deferred none) (Kd.R_set (Kd.R_set hRo bx4 zq34 0 (.slice An rn.1.length cn)) hb5 zq34 0 (.int .i64 rn.2)) (Nat.le_refl D) HK2.out rfl); clear bx4 bx5 hb5 hRo hRn hb7 hK7 hBW7 hnorm; gi_wp2; refine ⟨by simp, .inl ⟨_, _, rfl, run_takeDeferred HK2.out, ?_⟩⟩; exact ⟨_, results_c2 rfl _ _ _ rfl (Boxed.cell (put_boxed HB4'.out hD4.symm _)) (oneC_slice hu22) rfl (Boxed.cell (put_boxed HB5'.out hD5.symm _)) (oneC_int Tryz.underlying27), _, rn, HRES.out, rfl, HRZ.out, below_put (Nat.le_refl _) _ HBY'.out HD.out⟩
 case stop =>
  rintro D c S W hD hSD hst hsb ⟨rfl, e, bx4, bx5, hBW, hEE, hne⟩ hK; have HRES := Lib.hid (HBI.out ([], e) (.inl ⟨by rw [hEE]; exact hne, by rw [hEE]⟩)); have hD4 : D ≠ w.heap.size + 1 := by have := HS2.out; omega
  have hD5 : D ≠ w.heap.size + 1 + 1 := by have := HS2.out; omega
  have HD := Lib.hid (show w.heap.size ≤ D by have := HS2.out; omega); have HB4' := Lib.hid bx4; have HB5' := Lib.hid bx5; have HBY' := Lib.hid hBW; have HK2 := Lib.hid hK; clear hK bx4 bx5 hBW hEE hst hsb hSD hne; gi_wp2; refine ⟨by simp, .inl ⟨_, _, rfl, run_takeDeferred HK2.out, ?_⟩⟩; exact ⟨_, results_c2 rfl _ _ _ rfl (Boxed.cell (put_boxed HB4'.out hD4.symm _)) (oneC_slice hu22) rfl (Boxed.cell (put_boxed HB5'.out hD5.symm _)) (oneC_int Tryz.underlying27), _, [], e, HRES.out, rfl, Kd.R_nil _ _ _ _ _, below_put (Nat.le_refl _) _ HBY'.out HD.out⟩
abbrev EvF := List Op8 → List Vl → Int × Int × ByteArray × Int
def projR (ev : EvF) (r : List Vl) (out : List Vl) : List (List Op8) → List Vl × Int
 | [] => (out, 0)
 | x :: xs => if (ev x r).2.2.2 ≠ 0 then ([], (ev x r).2.2.2) else projR ev r (out ++ [⟨(ev x r).1, (ev x r).2.1, (ev x r).2.2.1⟩]) xs
theorem projR_drop (ev : EvF) (r out : List Vl) (xs : List (List Op8)) (k : Nat) (hk : k < xs.length) :
  projR ev r out (xs.drop k) = if (ev xs[k] r).2.2.2 ≠ 0 then ([], (ev xs[k] r).2.2.2) else projR ev r (out ++ [⟨(ev xs[k] r).1, (ev xs[k] r).2.1, (ev xs[k] r).2.2.1⟩]) (xs.drop (k + 1)) := by
 rw [List.drop_eq_getElem_cons hk, projR]
theorem proj1_calls (ev : EvF) (xs : List (List Op8)) (bx : Nat) (A : Option Addr) (c : Nat) (Ax : Option Addr) (cx : Nat) (r : List Vl) (w : World) (hbx : w.cell? ⟨bx, 0, none⟩ = some (.slice Ax xs.length cx)) (hxs : Kd.C (Kd.slice 68 kO) w Ax xs.length xs) (hxl : xs.length ≤ 8)
  (hr : Kd.C kV w A r.length r) (hc : r.length ≤ c) (hev : ∀ x ∈ xs, ∃ k, eval_Eval.f k x r = some (ev x r)) :
  Calls Tryz.prog 55 #[.slice A r.length c, .pointer (some ⟨bx, 0, none⟩)] w fun e w' => ∃ v, e = .returned (.tuple #[v, .int .i64 (projR ev r [] xs).2]) ∧ Kd.R kV tV w' w.heap.size (fun _ => True) v (projR ev r [] xs).1 ∧ Below w.heap.size w w' := by
 obtain ⟨i0, hi0, hz0, hz1, hz2⟩ := info_parts info65; have hu39 : Tryz.prog.underlying 39 = some (.slice 65) := by kernel_rfl
 have HXS := Lib.hid hxs; have HXL := Lib.hid hxl; have EC := Lib.hid (fun (x : List Op8) (hx : x ∈ xs) (A' : Option Addr) (c' : Nat) (w1 : World) (h : Below w.heap.size w w1) (hC : Kd.C kO w1 A' x.length x) (hc' : x.length ≤ c') => (show Calls Tryz.prog 56 #[.slice A' x.length c', .slice A r.length c] w1 fun e w' => e = .returned (.tuple #[.agg #[.int .i64 (ev x r).1, .int .i64 (ev x r).2.1, .string (ev x r).2.2.1], .int .i64 (ev x r).2.2.2]) ∧ Below w1.heap.size w1 w' from (hev x hx).elim fun k hk => eval_Eval.calls k A' c' x A c r _ _ _ _ w1 hC hc' (Kd.C_below hr h) hc hk)); obtain ⟨o, ho⟩ : ∃ o, projR ev r [] xs = o := ⟨_, rfl⟩
 rw [ho]; clear hxs hr hc hev; go_enter Tryz.func55, Tryz.ntmps55
 go_wp2_with (at_make; (refine wpList_make_own _ rfl _ _ _ rfl w.heap.size 65 i0 _ 3 hu39 hi0 hz0 hz1 _ _ _ xs.length rfl rfl rfl ?b1 ?b2 ?b3 ?_))
 case b1 => have := HXL.out; rw [hz2]; omega
 case b2 => have := HXL.out; unfold maxLen; omega
 case b3 => exact Nat.le_refl _
 intro w1 hown hgrow; have HO := Lib.hid (show Kd.R kV 65 w1 w.heap.size (fun _ => True) (.slice (some ⟨w.heap.size, 0, none⟩) 0 xs.length) [] from ⟨fun _ _ => trivial, [], hown, Reps.none _ _⟩); have HB1 := Lib.hid (show Below w.heap.size w w1 from ⟨hgrow.os, hgrow.tape, hgrow.output, hgrow.size, fun b hb => hgrow.block b hb (fun h => by cases h)⟩); have bx1 := pw_cell_below HB1.out hbx; clear hown hgrow; go_wp2
 go_loopw [5, 15] (fun v5 v15 wr => ∃ (i : Nat) (out : List Vl), i ≤ xs.length ∧ v15 = .int .i64 (i : Int) ∧ Aside0 (out.length = i) ∧ Aside0 (o = projR ev r out (xs.drop i)) ∧ Aside0 (Kd.R kV tV wr w.heap.size (fun _ => True) v5 out) ∧ Aside0 (Below w.heap.size w wr)) (fun v5 v15 wr => xs.length - (intOf v15).toNat)
 case atStart => exact ⟨0, [], Nat.zero_le _, rfl, ⟨rfl⟩, ⟨by rw [List.drop_zero]; exact ho.symm⟩, ⟨HO.out⟩, ⟨HB1.out⟩⟩
 case round =>
  obtain ⟨i, out, hi, rfl, HLO, HEQ, HRO, HBr⟩ := hrel; clear ho
  by_cases hil : i < xs.length
  ·obtain ⟨X, hX⟩ : ∃ X, xs[i] = X := ⟨_, rfl⟩
   obtain ⟨ad, Ay, cy, e1, x0, x1, x2⟩ := at_L7 (Kd.C_below HXS.out HBr.out) (i : Int) zq4 zq4; have hrd : rd_L7 xs (i : Int) = X := by
    unfold rd_L7; rw [Int.toNat_natCast, List.getD_eq_getElem?_getD, List.getElem?_eq_getElem hil]; exact hX
   rw [Int.toNat_natCast, hrd] at x0; rw [hrd] at x1 x2; clear hrd; cases e1; have HP := Lib.hid (projR_drop ev r out xs i hil); rw [hX] at HP; have E1 := Lib.hid (EC.out X (by rw [← hX]; exact List.getElem_mem hil) Ay cy wr HBr.out x2 x1); have p171 := eq_true (show (0 : Int) ≤ (i : Int) by omega); have q171 := eq_true (show (i : Int) < (xs.length : Int) by omega); clear hX x1 x2; obtain ⟨⟨va, vb, vc, ve⟩, hev⟩ : ∃ z, ev X r = z := ⟨_, rfl⟩
   rw [hev] at HP E1; clear hev
   by_cases he : ve = 0
   ·have be : (ve == 0) = true := by rw [he]; rfl
    have HP2 := Lib.hid (show o = projR ev r (out ++ [⟨va, vb, vc⟩]) (xs.drop (i + 1)) by rw [HEQ.out, HP.out, if_neg (by simp [he])]); clear he
    go_wp2_with (first
     | (go_at_call 56; (with_reducible refine E1.out.mono ?_); rintro e w4 ⟨rfl, hb4⟩; have HB4 := Lib.hid hb4; have a0 := (blk_cell (blk_new w4 (.cells #[.int .i64 va, .int .i64 vb, .string vc] 65 (0, 0))) 0).trans (show _ = some (Value.int .i64 va) from rfl); have a1 := (blk_cell (blk_new w4 (.cells #[.int .i64 va, .int .i64 vb, .string vc] 65 (0, 0))) 1).trans (show _ = some (Value.int .i64 vb) from rfl); have a2 := (blk_cell (blk_new w4 (.cells #[.int .i64 va, .int .i64 vb, .string vc] 65 (0, 0))) 2).trans (show _ = some (Value.string vc) from rfl); have HBA := Lib.hid (below_alloc hb4 (.cells #[.int .i64 va, .int .i64 vb, .string vc] 65 (0, 0))); clear hb4)
     | (at_builtin; (refine Kd.R_append kV (w0 := w) w.heap.size rfl _ _ 39 65 (.agg #[(.int .i64 0), (.int .i64 0), (.string ⟨#[]⟩)]) 32 rfl hu39 info65 rfl zq34 zq4 u5 out ⟨va, vb, vc⟩ [.int .i64 va, .int .i64 vb, .string vc] (fun _ => True) (fun _ => False) rfl (by first | rfl | (rw [World.size_alloc]; rfl)) ?aP (fun _ h => h.elim) (fun _ _ => trivial) ?aO ?aB ?aS ?aL ?_)))
    case aP => exact k65_mkM _ _ _ ⟨va, vb, vc⟩
    case aO => exact Kd.R_below HRO.out HBA.out
    case aB => exact HBr.out.trans (HBA.out.mono HBr.out.size)
    case aS => exact Nat.le_trans HBr.out.size HBA.out.size
    case aL => have := HLO.out; have := HXL.out; omega
    intro v1 w6 ho hb hg hat; have HO6 := Lib.hid ho; have HB6 := Lib.hid hb; clear ho hb hg hat; go_wp2; go_roundw
    case rel => exact ⟨i + 1, out ++ [⟨va, vb, vc⟩], by omega, by go_num, ⟨by rw [List.length_append, HLO.out]; rfl⟩, ⟨HP2.out⟩, ⟨HO6.out⟩, ⟨HB6.out⟩⟩
    case measure => simp [intOf]; omega
   ·have be : (ve == 0) = false := beq_eq_false_iff_ne.2 he
    have h := show o = ([], ve) by rw [HEQ.out, HP.out, if_pos he]
    clear he HEQ; subst h
    go_wp2_with (go_at_call 56; (with_reducible refine E1.out.mono ?_); rintro e w4 ⟨rfl, hb4⟩; have HB4 := Lib.hid (HBr.out.trans (hb4.mono HBr.out.size)); clear hb4)
    go_ret2; exact ⟨_, rfl, Kd.R_nil _ _ _ _ _, (by first | exact HB4.out | exact below_alloc HB4.out _)⟩
  ·obtain rfl : i = xs.length := by omega
   have h := show o = (out, 0) by rw [HEQ.out, List.drop_length]; rfl
   clear HEQ; subst h; go_wp2; go_ret2; exact ⟨_, rfl, HRO.out, HBr.out⟩
def formAll (ef : List Op8 → Int) : List (List Op8) → Int
 | [] => 0
 | x :: xs => if ef x ≠ 0 then ef x else formAll ef xs
theorem formAll_drop (ef : List Op8 → Int) (xs : List (List Op8)) (k : Nat) (hk : k < xs.length) : formAll ef (xs.drop k) = if ef xs[k] ≠ 0 then ef xs[k] else formAll ef (xs.drop (k + 1)) := by
 rw [List.drop_eq_getElem_cons hk, formAll]
def ProjIs (ev : EvF) (ef : List Op8 → Int) (xs : List (List Op8)) (l : List EdP) (r : List EdP × Int) : Prop :=
 (mayE l = false ∧ r = ([], 2)) ∨ (mayE l = true ∧ 8 < xs.length ∧ r = ([], 6)) ∨ (mayE l = true ∧ xs.length ≤ 8 ∧ formAll ef xs ≠ 0 ∧ r = ([], formAll ef xs)) ∨
  (mayE l = true ∧ xs.length ≤ 8 ∧ formAll ef xs = 0 ∧ BecIs (fun row => projR ev row [] xs) l r)
theorem Project_calls (ev : EvF) (ef : List Op8 → Int) (A0 : Option Addr) (c0 : Nat) (l : List EdP) (A1 : Option Addr) (c1 : Nat) (xs : List (List Op8)) (w : World) (hr0 : Kd.C kE w A0 l.length l) (hrow : ∀ e ∈ l, e.f0.length ≤ 4398046511104)
  (hr1 : Kd.C (Kd.slice 68 kO) w A1 xs.length xs) (hfk : ∀ x ∈ xs, ∃ k, expr_Form.f k x = some (ef x)) (hev : mayE l = true → formAll ef xs = 0 → ∀ x ∈ xs, ∀ e ∈ l, ∃ k, eval_Eval.f k x e.f0 = some (ev x e.f0)) :
  Calls Tryz.prog 21 #[.slice A0 l.length c0, .slice A1 xs.length c1] w fun e w' => ∃ v r, ProjIs ev ef xs l r ∧ e = .returned (.tuple #[v, .int .i64 r.2]) ∧ Kd.R kE tE w' w.heap.size (fun _ => True) v r.1 ∧ Below w.heap.size w w' := by
 have hmf : ∀ (fn : Fn) (first cap : Array Value) (w : World), (Instr.makeFunc fn first cap).run Tryz.prog w = .ok (.func fn first cap) w := fun _ _ _ _ => rfl
 have MC := Lib.hid (fun (w1 : World) (h : Below w.heap.size w w1) => May_calls A0 c0 l w1 (Kd.C_below hr0 h) hrow); have FC := Lib.hid (fun (x : List Op8) (hx : x ∈ xs) (A' : Option Addr) (c' : Nat) (w1 : World) (hC : Kd.C kO w1 A' x.length x) (hc' : x.length ≤ c') => (show Calls Tryz.prog 47 #[.slice A' x.length c'] w1 fun e w' => e = .returned (.int .i64 (ef x)) ∧ Below w1.heap.size w1 w' from (hfk x hx).elim fun k hk => expr_Form.calls k A' c' x (ef x) w1 hC hc' hk)); have HR := Lib.hid hr0; have HR1 := Lib.hid hr1; have HRW := Lib.hid hrow; have HEV := Lib.hid hev; have HBA := Lib.hid (below_alloc (Below.refl _ w) (.cells #[.slice A1 xs.length c1] 32 (0, 0))); have HBX := Lib.hid (show Boxed (w.alloc (.cells #[.slice A1 xs.length c1] 32 (0, 0))) w.heap.size 32 (.slice A1 xs.length c1) from blk_new w _); clear hr0 hrow hr1 hfk hev; obtain ⟨m, hm⟩ : ∃ m, mayE l = m := ⟨_, rfl⟩
 rw [hm] at MC; cases m with
 | false =>
  have HRES := Lib.hid (show ProjIs ev ef xs l ([], 2) from .inl ⟨hm, rfl⟩); clear hm; go_enter Tryz.func21, Tryz.ntmps21
  go_wp2_with ((with_reducible refine (MC.out _ HBA.out).mono ?_); rintro e w1 ⟨rfl, hb1⟩; have HB1 := Lib.hid (HBA.out.trans (hb1.mono HBA.out.size)); clear hb1)
  go_ret2; exact ⟨_, ([], 2), HRES.out, rfl, Kd.R_nil _ _ _ _ _, HB1.out⟩
 | true =>
  by_cases hx8 : xs.length ≤ 8
  ·have b8 : decide ((xs.length : Int) > 8) = false := decide_eq_false zq4
   have HM := Lib.hid hm; have HX8 := Lib.hid hx8; clear hm hx8; go_enter Tryz.func21, Tryz.ntmps21
   go_wp2_with ((with_reducible refine (MC.out _ HBA.out).mono ?_); rintro e w1 ⟨rfl, hb1⟩; have HB1 := Lib.hid (HBA.out.trans (hb1.mono HBA.out.size)); have HBX1 := Lib.hid (Boxed.below HBX.out hb1); have cl3 := HBX1.out.cell; clear hb1)
   go_loopw [19] (fun v19 wr => ∃ (i : Nat), i ≤ xs.length ∧ v19 = .int .i64 (i : Int) ∧ Aside0 (formAll ef xs = formAll ef (xs.drop i)) ∧ Aside0 (Below w1.heap.size w1 wr)) (fun v19 wr => xs.length - (intOf v19).toNat)
   case atStart => exact ⟨0, Nat.zero_le _, rfl, ⟨by rw [List.drop_zero]⟩, ⟨Below.refl _ _⟩⟩
   case round =>
    obtain ⟨i, hi, rfl, HEQ, HBr⟩ := hrel; have HBw := Lib.hid (HB1.out.trans (HBr.out.mono HB1.out.size)); have hx9 := HX8.out
    by_cases hil : i < xs.length
    ·obtain ⟨X, hX⟩ : ∃ X, xs[i] = X := ⟨_, rfl⟩
     obtain ⟨ad, Ay, cy, e1, x0, x1, x2⟩ := at_L7 (Kd.C_below HR1.out HBw.out) (i : Int) zq4 zq4; have hrd : rd_L7 xs (i : Int) = X := by
      unfold rd_L7; rw [Int.toNat_natCast, List.getD_eq_getElem?_getD, List.getElem?_eq_getElem hil]; exact hX
     rw [Int.toNat_natCast, hrd] at x0; rw [hrd] at x1 x2; clear hrd; cases e1; have HP := Lib.hid (formAll_drop ef xs i hil); rw [hX] at HP; have E1 := Lib.hid (FC.out X (by rw [← hX]; exact List.getElem_mem hil) Ay cy wr x2 x1); have p171 := eq_true (show (0 : Int) ≤ (i : Int) by omega); have q171 := eq_true (show (i : Int) < (xs.length : Int) by omega); clear hX x1 x2; obtain ⟨fe, hfe⟩ : ∃ z, ef X = z := ⟨_, rfl⟩
     rw [hfe] at HP E1; clear hfe
     by_cases he : fe = 0
     ·have be : (fe == 0) = true := by rw [he]; rfl
      have HP2 := Lib.hid (show formAll ef xs = formAll ef (xs.drop (i + 1)) by rw [HEQ.out, HP.out, if_neg (by simp [he])]); clear he
      go_wp2_with ((with_reducible refine E1.out.mono ?_); rintro e w4 ⟨rfl, hb4⟩; have HB4 := Lib.hid (HBr.out.trans (hb4.mono HBr.out.size)); clear hb4)
      go_roundw
      case rel => exact ⟨i + 1, by omega, by go_num, ⟨HP2.out⟩, ⟨HB4.out⟩⟩
      case measure => simp [intOf]; omega
     ·have be : (fe == 0) = false := beq_eq_false_iff_ne.2 he
      have hff : formAll ef xs = fe := by rw [HEQ.out, HP.out, if_pos he]
      have HRES := Lib.hid (show ProjIs ev ef xs l ([], fe) from .inr (.inr (.inl ⟨HM.out, HX8.out, by rw [hff]; exact he, by rw [hff]⟩))); clear he hff
      go_wp2_with ((with_reducible refine E1.out.mono ?_); rintro e w4 ⟨rfl, hb4⟩; have HB4 := Lib.hid (HBw.out.trans (hb4.mono HBw.out.size)); clear hb4)
      go_ret2; exact ⟨_, ([], fe), HRES.out, rfl, Kd.R_nil _ _ _ _ _, HB4.out⟩
    ·obtain rfl : i = xs.length := by omega
     have hf0 : formAll ef xs = 0 := by rw [HEQ.out, List.drop_length]; rfl
     have HF0 := Lib.hid hf0; have HBXr := Lib.hid (Boxed.below HBX1.out HBr.out); have BC := Lib.hid (become_calls (fun row => projR ev row [] xs) 55 #[.pointer (some ⟨w.heap.size, 0, none⟩)] A0 c0 l wr (Kd.C_below HR.out HBw.out) HM.out HRW.out (enters_of Tryz.func55 zq17 rfl)
      (fun e0 he0 A c W1 hb hR => (proj1_calls ev xs w.heap.size A c A1 c1 e0.f0 W1 ((Boxed.below HBXr.out hb).cell) (Kd.C_below HR1.out (HBw.out.trans (hb.mono HBw.out.size))) HX8.out (Kd.R_reads' hR).2.2 (Kd.R_reads' hR).2.1 (fun x hx => HEV.out HM.out HF0.out x hx e0 he0)).mono fun e w' ⟨v, h1, h2, h3⟩ => ⟨v, h1, Kd.R_lower h2 (Nat.zero_le _), h3⟩))
     clear hf0 HEQ
     go_wp2_with ((with_reducible refine BC.out.mono ?_); rintro e w6 ⟨v6, r6, hbec, rfl, hR6, hb6⟩; have HRES := Lib.hid (show ProjIs ev ef xs l r6 from .inr (.inr (.inr ⟨HM.out, HX8.out, HF0.out, hbec⟩))); have HR6 := Lib.hid hR6; have HB6 := Lib.hid (HBw.out.trans (hb6.mono HBw.out.size)); have HSZ := Lib.hid HBw.out.size; clear hR6 hb6 hbec)
     go_ret2; exact ⟨v6, r6, HRES.out, rfl, Kd.R_lower HR6.out HSZ.out, HB6.out⟩
  ·have b8 : decide ((xs.length : Int) > 8) = true := decide_eq_true zq4
   have HRES := Lib.hid (show ProjIs ev ef xs l ([], 6) from .inr (.inl ⟨hm, by omega, rfl⟩)); clear hm hx8; go_enter Tryz.func21, Tryz.ntmps21
   go_wp2_with ((with_reducible refine (MC.out _ HBA.out).mono ?_); rintro e w1 ⟨rfl, hb1⟩; have HB1 := Lib.hid (HBA.out.trans (hb1.mono HBA.out.size)); have cl3 := (Boxed.below HBX.out hb1).cell; clear hb1)
   go_ret2; exact ⟨_, ([], 6), HRES.out, rfl, Kd.R_nil _ _ _ _ _, HB1.out⟩
end Go.Proofs.YtmkgecapkeojaaaGreat.Eg
end
section
namespace Go.Proofs.YtmkgecapkeojaaaGreat.Eg
open Go.Proofs.YtmkgecapkeojaaaGreat Go.Proofs.YtmkgecapkeojaaaGreat.PDa
open Go.RowKit Go.Proofs.YtmkgecapkeojaaaGreatW.PrintWords Go.Proofs.YtmkgecapkeojaaaGreat.Stp Go.Proofs.YtmkgecapkeojaaaGreat.Rw Go.Proofs.YtmkgecapkeojaaaGreat.Cmp
instance decRow : DecidableEq (List Vl) := fun a b => decidable_of_iff (eqR a b = true) (eqR_iff a b)
theorem canonJ_perm {f g : List Jp} (h : f.Perm g) : canonJ f = canonJ g := by
 unfold canonJ
 congr 1
 refine Canon.canon_congr ltI_ord fun k => Canon.J_perm k ?_
 exact (h.map pJ).filter _
theorem normJ_perm {f g : List Jp} (h : f.Perm g) : normJ f = normJ g := by
 unfold normJ; rw [h.any_eq, h.any_eq]; rw [canonJ_perm h]
def rowIns (r : List Vl) : List (List Vl) → List (List Vl)
 | [] => [r]
 | x :: xs => if rC x r < 0 then x :: rowIns r xs else if x = r then x :: xs else r :: x :: xs
def rowsOf (l : List EdP) : List (List Vl) := (l.map (·.f0)).foldr rowIns []
theorem rowIns_mem (r : List Vl) : ∀ (l : List (List Vl)) (z : List Vl), z ∈ rowIns r l ↔ z = r ∨ z ∈ l
 | [], z => by simp [rowIns]
 | x :: xs, z => by
  rw [rowIns]
  split
  ·rw [List.mem_cons, rowIns_mem r xs z, List.mem_cons]
   constructor
   ·rintro (h | h | h)
    ·exact .inr (.inl h)
    ·exact .inl h
    ·exact .inr (.inr h)
   ·rintro (h | h | h)
    ·exact .inr (.inl h)
    ·exact .inl h
    ·exact .inr (.inr h)
  ·split
   ·rename_i h
    rw [← h, List.mem_cons]
    constructor
    ·exact fun h => .inr h
    ·rintro (h | h)
     ·exact .inl h
     ·exact h
   ·rw [List.mem_cons]
abbrev Inc (l : List (List Vl)) : Prop := l.Pairwise fun a b => rC a b < 0
theorem rowIns_inc (r : List Vl) : ∀ (l : List (List Vl)), Inc l → Inc (rowIns r l)
 | [], _ => by simp [rowIns, Inc]
 | x :: xs, h => by
  have h1 := List.pairwise_cons.1 h; rw [rowIns]
  split
  ·rename_i hx
   refine List.pairwise_cons.2 ⟨fun z hz => ?_, rowIns_inc r xs h1.2⟩
   rcases (rowIns_mem r xs z).1 hz with e | e
   ·rw [e]; exact hx
   ·exact h1.1 z e
  ·split
   ·exact h
   ·rename_i hx hne
    have hlt : rC r x < 0 := by
     have a1 := rC_is.anti r x; have a2 := rC_is.zero x r
     by_cases e : rC x r = 0
     ·exact absurd (a2.1 e) hne
     ·exact a1.2 (by omega)
    refine List.pairwise_cons.2 ⟨fun z hz => ?_, h⟩
    rcases List.mem_cons.1 hz with e | e
    ·rw [e]; exact hlt
    ·exact rC_is.trans _ _ _ hlt (h1.1 z e)
theorem rowsOf_mem (l : List EdP) (z : List Vl) : z ∈ rowsOf l ↔ ∃ e ∈ l, e.f0 = z := by
 unfold rowsOf
 induction l with
 | nil => simp
 | cons e es ih =>
  rw [List.map_cons, List.foldr_cons, rowIns_mem, ih]
  constructor
  ·rintro (h | ⟨e', he, h⟩)
   ·exact ⟨e, List.mem_cons_self, h.symm⟩
   ·exact ⟨e', List.mem_cons_of_mem _ he, h⟩
  ·rintro ⟨e', he, h⟩
   rcases List.mem_cons.1 he with rfl | he
   ·exact .inl h.symm
   ·exact .inr ⟨e', he, h⟩
theorem rowsOf_inc (l : List EdP) : Inc (rowsOf l) := by
 unfold rowsOf
 induction l with
 | nil => exact List.Pairwise.nil
 | cons e es ih => rw [List.map_cons, List.foldr_cons]; exact rowIns_inc _ _ ih
theorem inc_uniq : ∀ (a b : List (List Vl)), Inc a → Inc b → (∀ z, z ∈ a ↔ z ∈ b) → a = b
 | [], [], _, _, _ => rfl
 | [], y :: ys, _, _, h => by have := (h y).2 List.mem_cons_self; cases this
 | x :: xs, [], _, _, h => by have := (h x).1 List.mem_cons_self; cases this
 | x :: xs, y :: ys, ha, hb, h => by
  have a1 := List.pairwise_cons.1 ha; have b1 := List.pairwise_cons.1 hb; have irr : ∀ z : List Vl, ¬ rC z z < 0 := fun z hz => by rw [rC_is.self] at hz; omega
  have hxy : x = y := by
   rcases List.mem_cons.1 ((h x).1 List.mem_cons_self) with e | e
   ·exact e
   ·rcases List.mem_cons.1 ((h y).2 List.mem_cons_self) with e2 | e2
    ·exact e2.symm
    ·exact absurd (rC_is.trans _ _ _ (b1.1 x e) (a1.1 y e2)) (irr y)
  subst hxy
  congr 1
  refine inc_uniq xs ys a1.2 b1.2 fun z => ?_
  constructor
  ·intro hz
   rcases List.mem_cons.1 ((h z).1 (List.mem_cons_of_mem _ hz)) with e | e
   ·subst e; exact absurd (a1.1 z hz) (irr z)
   ·exact e
  ·intro hz
   rcases List.mem_cons.1 ((h z).2 (List.mem_cons_of_mem _ hz)) with e | e
   ·subst e; exact absurd (b1.1 z hz) (irr z)
   ·exact e
theorem rowsOf_perm {a b : List EdP} (h : a.Perm b) : rowsOf a = rowsOf b :=
 inc_uniq _ _ (rowsOf_inc a) (rowsOf_inc b) fun z => by
  rw [rowsOf_mem, rowsOf_mem]; exact ⟨fun ⟨e, he, hz⟩ => ⟨e, h.mem_iff.1 he, hz⟩, fun ⟨e, he, hz⟩ => ⟨e, h.mem_iff.2 he, hz⟩⟩
theorem jumpsOf_perm {a b : List EdP} (h : a.Perm b) (r : List Vl) : (jumpsOf a r).Perm (jumpsOf b r) := (h.filter _).map _
theorem jumpsOf_cons (e : EdP) (es : List EdP) (r : List Vl) : jumpsOf (e :: es) r = (if e.f0 = r then [jmpE e] else []) ++ jumpsOf es r := by
 unfold jumpsOf; rw [List.filter_cons]
 by_cases h : e.f0 = r
 ·rw [if_pos ((eqR_iff _ _).2 h), if_pos h]; rfl
 ·rw [if_neg (fun h2 => h ((eqR_iff _ _).1 h2)), if_neg h]; rfl
theorem jumpsOf_none (es : List EdP) (r : List Vl) (h : ∀ e ∈ es, e.f0 ≠ r) : jumpsOf es r = [] := by
 unfold jumpsOf; rw [List.map_eq_nil_iff, List.filter_eq_nil_iff]; exact fun e he h2 => h e he ((eqR_iff _ _).1 h2)
theorem runAt_groups : ∀ (es : List EdP) (r : List Vl) (js : List Jp), es.Pairwise (fun a b => rC a.f0 b.f0 ≤ 0) → (∀ e ∈ es, rC r e.f0 ≤ 0) →
  Inc ((runAt r js es).map (·.1)) ∧ (∀ x ∈ runAt r js es, rC r x.1 ≤ 0 ∧ x.2 = (if x.1 = r then js else []) ++ jumpsOf es x.1) ∧ (∀ z, z ∈ (runAt r js es).map (·.1) ↔ z = r ∨ ∃ e ∈ es, e.f0 = z)
 | [], r, js, _, _ => by
  refine ⟨by simp [runAt, Inc], fun x hx => ?_, fun z => by simp [runAt]⟩; rw [runAt, List.mem_singleton] at hx; subst hx; exact ⟨by rw [rC_is.self]; omega, by simp [jumpsOf]⟩
 | e :: es, r, js, hp, hr => by
  have h1 := List.pairwise_cons.1 hp; rw [runAt]
  by_cases he : e.f0 = r
  ·rw [if_pos ((eqR_iff _ _).2 he)]
   obtain ⟨i1, i2, i3⟩ := runAt_groups es r (js ++ [jmpE e]) h1.2 (fun z hz => hr z (List.mem_cons_of_mem _ hz)); refine ⟨i1, fun x hx => ⟨(i2 x hx).1, ?_⟩, fun z => ?_⟩
   ·rw [(i2 x hx).2, jumpsOf_cons, he]
    by_cases hxr : x.1 = r
    ·rw [if_pos hxr, if_pos hxr, if_pos hxr.symm, List.append_assoc]
    ·rw [if_neg hxr, if_neg hxr, if_neg (fun h => hxr h.symm)]; simp only [List.nil_append]
   ·rw [i3]
    constructor
    ·rintro (h | ⟨e', h2, h3⟩)
     ·exact .inl h
     ·exact .inr ⟨e', List.mem_cons_of_mem _ h2, h3⟩
    ·rintro (h | ⟨e', h2, h3⟩)
     ·exact .inl h
     ·rcases List.mem_cons.1 h2 with rfl | h2
      ·exact .inl (by rw [← h3, he])
      ·exact .inr ⟨e', h2, h3⟩
  ·rw [if_neg (fun h => he ((eqR_iff _ _).1 h))]
   have hlt : rC r e.f0 < 0 := by
    have h2 := hr e List.mem_cons_self; have h3 := rC_is.zero r e.f0
    by_cases h4 : rC r e.f0 = 0
    ·exact absurd (h3.1 h4).symm he
    ·omega
   have hle : ∀ z, rC e.f0 z ≤ 0 → rC r z < 0 := fun z hz => by
    by_cases h5 : rC e.f0 z = 0
    ·rw [← (rC_is.zero _ _).1 h5]; exact hlt
    ·exact rC_is.trans _ _ _ hlt (by omega)
   have hne : ∀ z, rC e.f0 z ≤ 0 → z ≠ r := fun z hz h6 => by
    have := hle z hz; rw [h6, rC_is.self] at this; omega
   obtain ⟨i1, i2, i3⟩ := runAt_groups es e.f0 [jmpE e] h1.2 h1.1; have hje : jumpsOf (e :: es) r = [] := jumpsOf_none _ _ fun z hz => by
    rcases List.mem_cons.1 hz with rfl | hz
    ·exact he
    ·exact hne _ (h1.1 z hz)
   refine ⟨?_, fun x hx => ?_, fun z => ?_⟩
   ·rw [List.map_cons]
    refine List.pairwise_cons.2 ⟨fun z hz => ?_, i1⟩; obtain ⟨x, hx, rfl⟩ := List.mem_map.1 hz; exact hle _ (i2 x hx).1
   ·rcases List.mem_cons.1 hx with rfl | hx
    ·exact ⟨by rw [rC_is.self]; omega, by rw [if_pos rfl, hje, List.append_nil]⟩
    ·have h7 := i2 x hx
     refine ⟨by have := hle _ h7.1; omega, ?_⟩; rw [if_neg (hne _ h7.1), List.nil_append, jumpsOf_cons, h7.2]
     by_cases h8 : x.1 = e.f0
     ·rw [if_pos h8, if_pos h8.symm]
     ·rw [if_neg h8, if_neg (fun h => h8 h.symm)]
   ·rw [List.map_cons, List.mem_cons, i3]
    constructor
    ·rintro (h | h | ⟨e', h2, h3⟩)
     ·exact .inl h
     ·exact .inr ⟨e, List.mem_cons_self, h.symm⟩
     ·exact .inr ⟨e', List.mem_cons_of_mem _ h2, h3⟩
    ·rintro (h | ⟨e', h2, h3⟩)
     ·exact .inl h
     ·rcases List.mem_cons.1 h2 with rfl | h2
      ·exact .inr (.inl h3.symm)
      ·exact .inr (.inr ⟨e', h2, h3⟩)
def groups (l : List EdP) : List (List Vl × List Jp) := (rowsOf l).map fun r => (r, jumpsOf l r)
theorem runs_groups (s : List EdP) (h : s.Pairwise (fun a b => rC a.f0 b.f0 ≤ 0)) : runsP s = groups s := by
 cases s with
 | nil => rfl
 | cons e es =>
  have h1 := List.pairwise_cons.1 h; obtain ⟨i1, i2, i3⟩ := runAt_groups es e.f0 [jmpE e] h1.2 h1.1; have hrows : (runsP (e :: es)).map (·.1) = rowsOf (e :: es) := by
   refine inc_uniq _ _ i1 (rowsOf_inc _) fun z => ?_
   rw [runsP, i3, rowsOf_mem]
   constructor
   ·rintro (h | ⟨e', h2, h3⟩)
    ·exact ⟨e, List.mem_cons_self, h.symm⟩
    ·exact ⟨e', List.mem_cons_of_mem _ h2, h3⟩
   ·rintro ⟨e', h2, h3⟩
    rcases List.mem_cons.1 h2 with rfl | h2
    ·exact .inl h3.symm
    ·exact .inr ⟨e', h2, h3⟩
  unfold groups; rw [← hrows, List.map_map]; refine (List.map_id _).symm.trans (List.map_congr_left fun x hx => ?_); rw [runsP] at hx; have h7 := (i2 x hx).2; refine Prod.ext rfl ?_
  show x.2 = jumpsOf (e :: es) x.1
  rw [h7, jumpsOf_cons]
  by_cases h8 : x.1 = e.f0
  ·rw [if_pos h8, if_pos h8.symm]
  ·rw [if_neg h8, if_neg (fun h => h8 h.symm)]
theorem mapR_perm (a b : List EdP) (h : a.Perm b) : ∀ (rows : List (List Vl)) (out : List EdP), mapR normJ out (rows.map fun r => (r, jumpsOf a r)) = mapR normJ out (rows.map fun r => (r, jumpsOf b r))
 | [], _ => rfl
 | r :: rows, out => by
  rw [List.map_cons, List.map_cons, mapR, mapR]; simp only; rw [normJ_perm (jumpsOf_perm h r)]
  split
  ·rfl
  ·split
   ·rfl
   ·exact mapR_perm a b h rows _
def normV (l : List EdP) : List EdP × Int := if l.any argE = true then ([], 2) else if l.any (fun x => timeB x.f1) = true then ([], 13) else mapR normJ [] (groups l)
theorem sortedE_rows {s : List EdP} (h : SortedE s) : s.Pairwise (fun a b => rC a.f0 b.f0 ≤ 0) := by
 refine h.imp fun {a b} hk => ?_
 have h1 := keyC_is.not_lt.1 hk; unfold keyC pairC keyE at h1; simp only at h1
 split at h1
 ·rename_i e; omega
 ·exact h1
theorem norm_is {l : List EdP} {r : List EdP × Int} (h : NormIs l r) : r = normV l := by
 unfold normV
 rcases h with ⟨h1, h2⟩ | ⟨h1, h2, h3⟩ | ⟨h1, h2, s, hp, hs, h3⟩
 ·rw [if_pos h1, h2]
 ·rw [if_neg (by rw [h1]; decide), if_pos h2, h3]
 ·rw [if_neg (by rw [h1]; decide), if_neg (by rw [h2]; decide), h3]
  unfold mapP; rw [runs_groups s (sortedE_rows hs)]; unfold groups; rw [rowsOf_perm hp]; exact mapR_perm s l hp _ _
def becV (bb : List Vl → List Vl × Int) (l : List EdP) : List EdP × Int := if (becR bb [] (runsP l)).2 ≠ 0 then ([], (becR bb [] (runsP l)).2) else normV (becR bb [] (runsP l)).1
theorem bec_is {bb : List Vl → List Vl × Int} {l : List EdP} {r : List EdP × Int} (h : BecIs bb l r) : r = becV bb l := by
 unfold becV
 rcases h with ⟨h1, h2⟩ | ⟨h1, h2⟩
 ·rw [if_pos h1, h2]
 ·rw [if_neg (fun h => h h1)]; exact norm_is h2
def projV (ev : EvF) (ef : List Op8 → Int) (xs : List (List Op8)) (l : List EdP) : List EdP × Int :=
 if mayE l = true then (if 8 < xs.length then ([], 6) else if formAll ef xs ≠ 0 then ([], formAll ef xs) else becV (fun row => projR ev row [] xs) l) else ([], 2)
theorem proj_is {ev : EvF} {ef : List Op8 → Int} {xs : List (List Op8)} {l : List EdP} {r : List EdP × Int} (h : ProjIs ev ef xs l r) : r = projV ev ef xs l := by
 unfold projV
 rcases h with ⟨h1, h2⟩ | ⟨h1, h2, h3⟩ | ⟨h1, h2, h3, h4⟩ | ⟨h1, h2, h3, h4⟩
 ·rw [if_neg (by rw [h1]; decide), h2]
 ·rw [if_pos h1, if_pos h2, h3]
 ·rw [if_pos h1, if_neg (by omega), if_pos h3, h4]
 ·rw [if_pos h1, if_neg (by omega), if_neg (fun h => h h3)]; exact bec_is h4
end Go.Proofs.YtmkgecapkeojaaaGreat.Eg
end
section
namespace Go.Proofs.YtmkgecapkeojaaaGreat.Eg
open Go.Proofs.YtmkgecapkeojaaaGreat Go.Proofs.YtmkgecapkeojaaaGreat.PDa
open Go.RowKit Go.Proofs.YtmkgecapkeojaaaGreatW.PrintWords Go.Proofs.YtmkgecapkeojaaaGreat.Stp Go.Proofs.YtmkgecapkeojaaaGreat.Rw Go.Proofs.YtmkgecapkeojaaaGreat.Cmp Go.Proofs.YtmkgecapkeojaaaGreat.Canon
abbrev KK := List Vl × Int
def pE (e : EdP) : KK × Int := ((e.f0, e.f1), e.f2)
def ltK (a b : KK) : Bool := decide (keyC a b < 0)
abbrev IsC (l : List EdP) : Prop := IsCanon ltK (l.map pE)
def okN (l : List EdP) : Prop := (∀ e ∈ l, argE e = false) ∧ ∀ e ∈ l, timeB e.f1 = false
theorem okN_fair {x : EdP} (h : argE x = false) : rowMay x.f0 = true ∧ fairB x.f2 = true := by
 unfold argE at h; rw [Bool.or_eq_false_iff, Bool.or_eq_false_iff] at h; obtain ⟨h1, h2, h3⟩ := h; refine ⟨by simpa using h1, ?_⟩; unfold fairB; rw [decide_eq_true (show x.f2 ≤ 1048576 by have := of_decide_eq_false h2; omega), decide_eq_true (show -1048576 ≤ x.f2 by have := of_decide_eq_false h3; omega)]; rfl
theorem argE_ok {x : EdP} (h1 : rowMay x.f0 = true) (h2 : fairB x.f2 = true) : argE x = false := by
 unfold fairB at h2; rw [Bool.and_eq_true] at h2; have a := of_decide_eq_true h2.1; have b := of_decide_eq_true h2.2; unfold argE; rw [h1, decide_eq_false (by omega), decide_eq_false (by omega)]; rfl
theorem normJ_ok {l : List EdP} (h : okN l) (r : List Vl) : normJ (jumpsOf l r) = toldJ (canonJ (jumpsOf l r)) := by
 unfold normJ; have h1 : (jumpsOf l r).any (fun x => !fairB x.f1) = false := by
  rw [List.any_eq_false]; intro x hx; obtain ⟨e, he, rfl⟩ := List.mem_map.1 hx; rw [show fairB (jmpE e).f1 = true from (okN_fair (h.1 e (List.mem_filter.1 he).1)).2]; decide
 have h2 : (jumpsOf l r).any (fun x => timeB x.f0) = false := by
  rw [List.any_eq_false]; intro x hx; obtain ⟨e, he, rfl⟩ := List.mem_map.1 hx; rw [show timeB (jmpE e).f0 = false from h.2 e (List.mem_filter.1 he).1]; decide
 rw [if_neg (by rw [h1]; decide), if_neg (by rw [h2]; decide)]
structure MayP (l : List EdP) : Prop where
 can : IsC l
 each : ∀ e ∈ l, rowMay e.f0 = true ∧ -2 < e.f1 ∧ e.f1 < 1125899906842624 ∧ fairB e.f2 = true
 few : ∀ r, (jumpsOf l r).length ≤ 1024
 len : l.length ≤ 4096
theorem MayP.okN {l : List EdP} (h : MayP l) : okN l := ⟨fun e he => argE_ok (h.each e he).1 (h.each e he).2.2.2, fun e he => by
 obtain ⟨_, h1, h2, _⟩ := h.each e he; unfold timeB; rw [decide_eq_false (by omega), decide_eq_false (by omega)]; rfl⟩
end Go.Proofs.YtmkgecapkeojaaaGreat.Eg
end
section
namespace Go.Proofs.YtmkgecapkeojaaaGreat.Eg
open Go.Proofs.YtmkgecapkeojaaaGreat Go.Proofs.YtmkgecapkeojaaaGreat.PDa
open Go.RowKit Go.Proofs.YtmkgecapkeojaaaGreatW.PrintWords Go.Proofs.YtmkgecapkeojaaaGreatW.PrintLast Go.Proofs.YtmkgecapkeojaaaGreatW.PrintMore
open Go.Proofs.YtmkgecapkeojaaaGreat.Stp Go.Proofs.YtmkgecapkeojaaaGreat.Rw Go.Proofs.YtmkgecapkeojaaaGreat.Canon
open Go.Proofs.YtmkgecapkeojaaaGreat.EvP (U)
theorem rdI (l : List Int) (i : Nat) (h : i < l.length) : rd l (i : Int) = l[i] := by
 unfold rd; rw [Int.toNat_natCast, List.getD_eq_getElem?_getD, List.getElem?_eq_getElem h]
 rfl
theorem rdJ (l : List Jp) (i : Nat) (h : i < l.length) : rd_T85 l (i : Int) = l[i] := by
 unfold rd_T85; rw [Int.toNat_natCast, List.getD_eq_getElem?_getD, List.getElem?_eq_getElem h]
 rfl
def withI (t : Int) : List Int → List Int
 | [] => [t]
 | x :: xs => if x = t then x :: xs else if t < x then t :: x :: xs else x :: withI t xs
theorem withI_len (t : Int) : ∀ l : List Int, (withI t l).length ≤ l.length + 1
 | [] => by simp [withI]
 | x :: xs => by
  unfold withI; have := withI_len t xs
  split
  ·simp
  ·split <;> simp <;> omega
theorem with_put (l : List Int) (t : Int) (hl : l.length ≤ 1000000) : ∀ (m i : Nat) (out : List Int), l.length - i = m → i ≤ l.length → (∀ x ∈ l.drop i, t < x) → out.length ≤ i + 1 → U (fun k => r09_With.l0 k l t out true (i : Int)) (out ++ l.drop i)
 | m, i, out, hm, hi, hx, ho => by
  refine EvP.U.succ ?_; simp only [r09_With.l0]
  by_cases c : i < l.length
  ·have hd : l.drop i = l[i] :: l.drop (i + 1) := List.drop_eq_getElem_cons c
   have h1 : t < l[i] := hx _ (by rw [hd]; exact List.mem_cons_self); refine EvP.U.pos zq4 (EvP.U.pos zq4 ?_); rw [rdI l i c, wrapN i zq4]; refine EvP.U.neg zq4 (EvP.U.pos zq4 (EvP.U.pos trivial (EvP.U.pos zq4 ?_))); have e : out ++ l.drop i = (out ++ [l[i]]) ++ l.drop (i + 1) := by rw [hd]; simp
   rw [e]
   match m, hm with
   | 0, hm => omega
   | m + 1, hm => exact with_put l t hl m (i + 1) _ zq4 zq4 (fun x h => hx x (by rw [hd]; exact List.mem_cons_of_mem _ h)) zq33
  ·refine EvP.U.neg zq4 (EvP.U.pos trivial ?_)
   rw [List.drop_eq_nil_of_le zq4]; exact EvP.U.congr_r (EvP.U.some _) zq30
theorem with_not (l : List Int) (t : Int) (hl : l.length ≤ 1000000) (hs : l.Pairwise (· < ·)) : ∀ (m i : Nat), l.length - i = m → i ≤ l.length → U (fun k => r09_With.l0 k l t (l.take i) false (i : Int)) (l.take i ++ withI t (l.drop i))
 | m, i, hm, hi => by
  refine EvP.U.succ ?_; simp only [r09_With.l0]; have hti : (l.take i).length = i := by rw [List.length_take]; omega
  by_cases c : i < l.length
  ·have hd : l.drop i = l[i] :: l.drop (i + 1) := List.drop_eq_getElem_cons c
   refine EvP.U.pos zq4 (EvP.U.pos zq4 ?_); rw [rdI l i c, wrapN i zq4]
   by_cases c1 : l[i] = t
   ·refine EvP.U.pos c1 (EvP.U.congr_r (EvP.U.some _) ?_)
    rw [hd, withI, if_pos c1, ← hd, List.take_append_drop]
   ·refine EvP.U.neg c1 ?_
    by_cases c2 : l[i] > t
    ·refine EvP.U.pos c2 (EvP.U.neg zq34 (EvP.U.pos zq4 ?_))
     refine EvP.U.bind (EvP.U.some _) (EvP.U.pos zq33 ?_); have e : l.take i ++ withI t (l.drop i) = (l.take i ++ [t] ++ [l[i]]) ++ l.drop (i + 1) := by
      rw [hd, withI, if_neg c1, if_pos c2]; simp
     rw [e]; have hs2 := List.pairwise_cons.1 (by have := List.Pairwise.drop (i := i) hs; rw [hd] at this; exact this); refine with_put l t hl _ (i + 1) _ rfl zq4 (fun x h => ?_) zq33; have := hs2.1 x h; omega
    ·refine EvP.U.neg c2 (EvP.U.pos zq4 ?_)
     have e : l.take i ++ withI t (l.drop i) = l.take (i + 1) ++ withI t (l.drop (i + 1)) := by
      rw [hd, withI, if_neg c1, if_neg zq4, show l.take (i + 1) = l.take i ++ [l[i]] by rw [List.take_add_one, List.getElem?_eq_getElem c]; rfl, List.append_assoc]; rfl
     have e2 : l.take i ++ [l[i]] = l.take (i + 1) := by rw [List.take_add_one, List.getElem?_eq_getElem c]; rfl
     rw [e, e2]
     match m, hm with
     | 0, hm => omega
     | m + 1, hm => exact with_not l t hl hs m (i + 1) zq4 zq4
  ·refine EvP.U.neg zq4 (EvP.U.neg zq34 (EvP.U.pos zq4 ?_))
   rw [List.drop_eq_nil_of_le zq4]; exact EvP.U.some _
theorem with09 (l : List Int) (t : Int) (hl : l.length ≤ 1000000) (hs : l.Pairwise (· < ·)) : U (fun k => r09_With.f k l t) (withI t l) := by
 have := with_not l t hl hs _ 0 rfl (Nat.zero_le _); unfold r09_With.f
 simpa using this
theorem withI_mem (t : Int) : ∀ (l : List Int) (z : Int), z ∈ withI t l ↔ z = t ∨ z ∈ l
 | [], z => by simp [withI]
 | x :: xs, z => by
  unfold withI
  split
  ·rename_i h; subst h; simp
  ·split
   ·simp
   ·simp only [List.mem_cons, withI_mem t xs z]
    constructor
    ·rintro (h | h | h)
     ·exact .inr (.inl h)
     ·exact .inl h
     ·exact .inr (.inr h)
    ·rintro (h | h | h)
     ·exact .inr (.inl h)
     ·exact .inl h
     ·exact .inr (.inr h)
theorem withI_inc (t : Int) : ∀ (l : List Int), l.Pairwise (· < ·) → (withI t l).Pairwise (· < ·)
 | [], _ => by simp [withI]
 | x :: xs, h => by
  have h2 := List.pairwise_cons.1 h; unfold withI
  split
  ·exact h
  ·rename_i c
   split
   ·rename_i c2
    refine List.pairwise_cons.2 ⟨fun y hy => ?_, h⟩
    rcases List.mem_cons.1 hy with rfl | hy
    ·exact c2
    ·have := h2.1 y hy; omega
   ·rename_i c2
    refine List.pairwise_cons.2 ⟨fun y hy => ?_, withI_inc t xs h2.2⟩
    rcases (withI_mem t xs y).1 hy with rfl | hy
    ·omega
    ·exact h2.1 y hy
def valI : List Jp → Int → Int
 | [], _ => 0
 | x :: xs, p => (if x.f0 ≤ p then x.f1 else 0) + valI xs p
theorem valI_append (p : Int) : ∀ a b : List Jp, valI (a ++ b) p = valI a p + valI b p
 | [], b => by simp [valI]
 | x :: xs, b => by simp [valI, valI_append p xs b]; omega
def Fair (l : List Jp) : Prop := ∀ x ∈ l, -1048576 ≤ x.f1 ∧ x.f1 ≤ 1048576
theorem valI_bound (p : Int) : ∀ l : List Jp, Fair l → -(1048576 * (l.length : Int)) ≤ valI l p ∧ valI l p ≤ 1048576 * (l.length : Int)
 | [], _ => by simp [valI]
 | x :: xs, h => by
  have h1 := h x List.mem_cons_self; have h2 := valI_bound p xs (fun y hy => h y (List.mem_cons_of_mem _ hy)); simp only [valI, List.length_cons]
  split <;> omega
theorem wrapS (z : Int) (h : -4611686018427387904 ≤ z) (h2 : z ≤ 4611686018427387904) : wrap64 z = z := by unfold wrap64; omega
theorem value_l0 (l : List Jp) (p : Int) (hf : Fair l) (hl : l.length ≤ 1000000) : ∀ (m i : Nat), l.length - i = m → i ≤ l.length → U (fun k => r09_Value.l0 k l p (valI (l.take i) p) (i : Int)) (valI l p)
 | m, i, hm, hi => by
  refine EvP.U.succ ?_; simp only [r09_Value.l0]
  by_cases c : i < l.length
  ·refine EvP.U.pos zq4 (EvP.U.pos zq4 ?_)
   rw [rdJ l i c, wrapN i zq4]; have ht : l.take (i + 1) = l.take i ++ [l[i]] := by rw [List.take_add_one, List.getElem?_eq_getElem c]; rfl
   have hb := valI_bound p (l.take i) (fun x hx => hf x (List.mem_of_mem_take hx)); have hti : (l.take i).length = i := by rw [List.length_take]; omega
   rw [hti] at hb; have hf1 := hf _ (List.getElem_mem c)
   by_cases c1 : l[i].f0 ≤ p
   ·refine EvP.U.pos c1 ?_
    rw [wrapS _ zq4 zq4, show valI (l.take i) p + l[i].f1 = valI (l.take (i + 1)) p by rw [ht, valI_append]; simp [valI, c1]]
    match m, hm with
    | 0, hm => omega
    | m + 1, hm => exact value_l0 l p hf hl m (i + 1) zq4 zq4
   ·refine EvP.U.neg c1 ?_
    rw [show valI (l.take i) p = valI (l.take (i + 1)) p by rw [ht, valI_append]; simp [valI, c1]]
    match m, hm with
    | 0, hm => omega
    | m + 1, hm => exact value_l0 l p hf hl m (i + 1) zq4 zq4
  ·obtain rfl : i = l.length := by omega
   refine EvP.U.neg zq4 ?_; rw [List.take_length]; exact EvP.U.some _
theorem value09 (l : List Jp) (p : Int) (hf : Fair l) (hl : l.length ≤ 1000000) : U (fun k => r09_Value.f k l p) (valI l p) := by
 have := value_l0 l p hf hl _ 0 rfl (Nat.zero_le _); unfold r09_Value.f
 simpa [valI] using this
theorem mayL_bad (last : Int) (x : Jp) (xs : List Jp) (h : x.f0 ≤ last ∨ x.f0 ≥ 1125899906842624 ∨ x.f1 = 0 ∨ x.f1 > 1048576 ∨ x.f1 < -1048576) : mayL last (x :: xs) = false := by
 cases e : mayL last (x :: xs) with
 | false => rfl
 | true =>
  simp only [mayL, fairB, Bool.and_eq_true, decide_eq_true_eq] at e; omega
theorem mayL_good (last : Int) (x : Jp) (xs : List Jp) (h : last < x.f0 ∧ x.f0 < 1125899906842624 ∧ x.f1 ≠ 0 ∧ x.f1 ≤ 1048576 ∧ -1048576 ≤ x.f1) : mayL last (x :: xs) = mayL x.f0 xs := by
 obtain ⟨h1, h2, h3, h4, h5⟩ := h; simp only [mayL, fairB, decide_eq_true h1, decide_eq_true h2, decide_eq_true h3, decide_eq_true h4, decide_eq_true h5, Bool.true_and]
theorem may_j1t (l : List Jp) (i : Int) : U (fun k => r09_May.j1 k l i true) false := by
 refine EvP.U.succ ?_; simp only [r09_May.j1]; exact EvP.U.pos trivial (EvP.U.some _)
theorem may09_l0 (l : List Jp) (hl : l.length ≤ 1024) : ∀ (m i : Nat) (last : Int), l.length - i = m → i ≤ l.length → (i = 0 ∧ last = -2 ∨ -1 ≤ last ∧ ∃ h : 0 < i, ∃ h2 : i - 1 < l.length, last = l[i - 1].f0) → U (fun k => r09_May.l0 k l (i : Int)) (mayL last (l.drop i))
 | m, i, last, hm, hi, hlast => by
  refine EvP.U.succ ?_; simp only [r09_May.l0]
  by_cases c : i < l.length
  ·refine EvP.U.pos zq4 (EvP.U.pos zq4 ?_)
   rw [rdJ l i c, List.drop_eq_getElem_cons c]; have hll : -2 ≤ last := by rcases hlast with h | h <;> omega
   by_cases c1 : l[i].f0 < -1
   ·rw [mayL_bad _ _ _ (.inl zq4)]; exact EvP.U.pos c1 (may_j1t l _)
   refine EvP.U.neg c1 ?_
   by_cases c2 : l[i].f0 ≥ 1125899906842624
   ·rw [mayL_bad _ _ _ (.inr (.inl c2))]; exact EvP.U.pos c2 (may_j1t l _)
   refine EvP.U.neg c2 ?_
   by_cases c3 : l[i].f1 = 0
   ·rw [mayL_bad _ _ _ (.inr (.inr (.inl c3)))]; exact EvP.U.pos c3 (may_j1t l _)
   refine EvP.U.neg c3 ?_
   by_cases c4 : l[i].f1 > 1048576
   ·rw [mayL_bad _ _ _ (.inr (.inr (.inr (.inl c4))))]; exact EvP.U.pos c4 (may_j1t l _)
   refine EvP.U.neg c4 ?_
   by_cases c5 : l[i].f1 < -1048576
   ·rw [mayL_bad _ _ _ (.inr (.inr (.inr (.inr c5)))), decide_eq_true c5]; exact may_j1t l _
   rw [decide_eq_false c5]; refine EvP.U.succ ?_; simp only [r09_May.j1]; refine EvP.U.neg zq34 ?_; have next : last < l[i].f0 → U (fun k => r09_May.l0 k l (wrap64 ((i : Int) + 1))) (mayL last (l[i] :: l.drop (i + 1))) := fun hlt => by
    clear hlast; rw [wrapN i zq4, mayL_good _ _ _ ⟨hlt, by omega, c3, by omega, by omega⟩]
    match m, hm with
    | 0, hm => omega
    | m + 1, hm => exact may09_l0 l hl m (i + 1) _ zq4 zq4 (.inr ⟨by omega, by omega, by simpa using c, rfl⟩)
   rcases hlast with ⟨h0, h1⟩ | ⟨h1, h2, h3, h4⟩
   ·exact EvP.U.neg zq4 (next zq4)
   ·have e : wrap64 ((i : Int) - 1) = ((i - 1 : Nat) : Int) := by unfold wrap64; omega
    refine EvP.U.pos zq4 (EvP.U.pos zq4 (EvP.U.pos zq4 ?_)); rw [e, rdJ l (i - 1) h3, rdJ l i c]; refine EvP.U.pos zq4 (EvP.U.pos zq4 ?_)
    by_cases c6 : l[i].f0 ≤ l[i - 1].f0
    ·rw [mayL_bad _ _ _ (.inl zq4)]; exact EvP.U.pos c6 (EvP.U.some _)
    ·exact EvP.U.neg c6 (next zq4)
  ·refine EvP.U.neg zq4 ?_
   rw [List.drop_eq_nil_of_le zq4]; exact EvP.U.some _
theorem may09 (l : List Jp) : U (fun k => r09_May.f k l) (mayJ l) := by
 unfold r09_May.f mayJ
 by_cases c : l.length ≤ 1024
 ·rw [decide_eq_true c, Bool.true_and]
  exact EvP.U.neg zq4 (may09_l0 l c _ 0 (-2) rfl (Nat.zero_le _) (.inl ⟨rfl, rfl⟩))
 ·rw [decide_eq_false c, Bool.false_and]
  exact EvP.U.pos zq4 (EvP.U.some _)
def toldI : List Int → List Int → Int → List Jp
 | p :: ps, v :: vs, was => (if v = was then [] else [⟨p, v - was⟩]) ++ toldI ps vs v
 | _, _, _ => []
theorem told_l0 (ps vs : List Int) (hl : ps.length ≤ 1000000) (hv : vs.length = ps.length) (hb : ∀ v ∈ vs, -2305843009213693952 ≤ v ∧ v ≤ 2305843009213693952) : ∀ (m i : Nat) (out : List Jp) (was : Int), ps.length - i = m → i ≤ ps.length → out.length ≤ i → -2305843009213693952 ≤ was ∧ was ≤ 2305843009213693952 →
  U (fun k => r09_Told.l0 k ps vs out was (i : Int)) (if mayJ (out ++ toldI (ps.drop i) (vs.drop i) was) = true then (out ++ toldI (ps.drop i) (vs.drop i) was, 0) else ([], 7))
 | m, i, out, was, hm, hi, ho, hw => by
  refine EvP.U.succ ?_; simp only [r09_Told.l0]
  by_cases c : i < ps.length
  ·have c' : i < vs.length := by omega
   refine EvP.U.pos zq4 (EvP.U.pos zq4 (EvP.U.pos zq4 ?_)); rw [rdI vs i c', rdI ps i c, wrapN i zq4]; have h1 := hb _ (List.getElem_mem c'); rw [List.drop_eq_getElem_cons c, List.drop_eq_getElem_cons c', toldI]
   by_cases c1 : vs[i] = was
   ·refine EvP.U.pos c1 ?_
    rw [if_pos c1, List.nil_append]
    match m, hm with
    | 0, hm => omega
    | m + 1, hm => exact told_l0 ps vs hl hv hb m (i + 1) out _ zq4 zq4 zq4 h1
   ·refine EvP.U.neg c1 (EvP.U.pos zq4 ?_)
    rw [if_neg c1, ← List.append_assoc, wrapS _ zq4 zq4]
    match m, hm with
    | 0, hm => omega
    | m + 1, hm => exact told_l0 ps vs hl hv hb m (i + 1) _ _ zq4 zq4 zq33 h1
  ·refine EvP.U.neg zq4 ?_
   rw [List.drop_eq_nil_of_le zq4]; have e : toldI [] (vs.drop i) was = [] := by rw [toldI]; simp
   rw [e, List.append_nil]; refine EvP.U.bind (may09 out) ?_; cases h : mayJ out with
   | true => exact EvP.U.pos rfl (EvP.U.some _)
   | false => exact EvP.U.neg zq34 (EvP.U.some _)
def placeS (acc : List Int) (x : Jp) : List Int := if x.f0 < 1125899906842624 then withI x.f0 acc else acc
def placesI (l : List Jp) : List Int := l.foldl placeS []
theorem placeS_len (acc : List Int) (x : Jp) : (placeS acc x).length ≤ acc.length + 1 := by
 unfold placeS; have := withI_len x.f0 acc
 split <;> omega
theorem placeS_inc (acc : List Int) (x : Jp) (h : acc.Pairwise (· < ·)) : (placeS acc x).Pairwise (· < ·) := by
 unfold placeS
 split
 ·exact withI_inc _ _ h
 ·exact h
theorem places_fold : ∀ (l : List Jp) (acc : List Int), acc.Pairwise (· < ·) → (l.foldl placeS acc).Pairwise (· < ·) ∧ ∀ z, z ∈ l.foldl placeS acc ↔ z ∈ acc ∨ ∃ x ∈ l, x.f0 = z ∧ z < 1125899906842624
 | [], acc, h => ⟨h, by simp⟩
 | x :: xs, acc, h => by
  obtain ⟨h1, h2⟩ := places_fold xs (placeS acc x) (placeS_inc acc x h); refine ⟨h1, fun z => ?_⟩; rw [List.foldl_cons, h2]; unfold placeS
  constructor
  ·rintro (h | ⟨y, hy, h3⟩)
   ·by_cases c : x.f0 < 1125899906842624
    ·rw [if_pos c, withI_mem] at h
     rcases h with rfl | h
     ·exact .inr ⟨x, List.mem_cons_self, rfl, c⟩
     ·exact .inl h
    ·rw [if_neg c] at h; exact .inl h
   ·exact .inr ⟨y, List.mem_cons_of_mem _ hy, h3⟩
  ·rintro (h | ⟨y, hy, h3, h4⟩)
   ·left
    split
    ·rw [withI_mem]; exact .inr h
    ·exact h
   ·rcases List.mem_cons.1 hy with rfl | hy
    ·left
     rw [if_pos zq4, withI_mem]; exact .inl h3.symm
    ·exact .inr ⟨y, hy, h3, h4⟩
theorem norm_l2 (l : List Jp) (ps : List Int) (hf : Fair l) (hl : l.length ≤ 1000000) (hp : ps.length ≤ 1000000) : ∀ (m i : Nat), ps.length - i = m → i ≤ ps.length → U (fun k => r09_Norm.l2 k l ps ((ps.take i).map (valI l)) (i : Int)) (toldJ (toldI ps (ps.map (valI l)) 0))
 | m, i, hm, hi => by
  refine EvP.U.succ ?_; simp only [r09_Norm.l2]
  by_cases c : i < ps.length
  ·refine EvP.U.pos zq4 (EvP.U.pos zq4 ?_)
   rw [rdI ps i c, wrapN i zq4]; refine EvP.U.bind (value09 l ps[i] hf hl) (EvP.U.pos zq33 ?_); have e : (ps.take i).map (valI l) ++ [valI l ps[i]] = (ps.take (i + 1)).map (valI l) := by
    rw [show ps.take (i + 1) = ps.take i ++ [ps[i]] by rw [List.take_add_one, List.getElem?_eq_getElem c]; rfl, List.map_append]; rfl
   rw [e]
   match m, hm with
   | 0, hm => omega
   | m + 1, hm => exact norm_l2 l ps hf hl hp m (i + 1) zq4 zq4
  ·obtain rfl : i = ps.length := by omega
   refine EvP.U.neg zq4 ?_; rw [List.take_length]; have hT := told_l0 ps (ps.map (valI l)) hp zq30 (fun v hv => by
    obtain ⟨p, _, rfl⟩ := List.mem_map.1 hv; have := valI_bound p l hf; omega) _ 0 [] 0 rfl (Nat.zero_le _) (Nat.zero_le _) zq4
   rw [List.drop_zero, List.drop_zero, List.nil_append] at hT; have hT2 : U (fun k => r09_Told.f k ps (ps.map (valI l))) (toldJ (toldI ps (ps.map (valI l)) 0)) := by
    unfold r09_Told.f toldJ; exact hT
   exact EvP.U.bind hT2 (EvP.U.some _)
theorem norm_l1 (l : List Jp) (hf : Fair l) (hl : l.length ≤ 1000000) : ∀ (m i : Nat), l.length - i = m → i ≤ l.length → U (fun k => r09_Norm.l1 k l ((l.take i).foldl placeS []) (i : Int)) (if (l.drop i).any (fun x => timeB x.f0) = true then ([], 13) else toldJ (toldI (placesI l) ((placesI l).map (valI l)) 0))
 | m, i, hm, hi => by
  refine EvP.U.succ ?_; simp only [r09_Norm.l1]; have hlen : ∀ (q : List Jp) (acc : List Int), (q.foldl placeS acc).length ≤ acc.length + q.length := by
   intro q
   induction q with
   | nil => intro acc; simp
   | cons x xs ih => intro acc; rw [List.foldl_cons]; have := ih (placeS acc x); have := placeS_len acc x; simp; omega
  by_cases c : i < l.length
  ·refine EvP.U.pos zq4 (EvP.U.pos zq4 ?_)
   rw [rdJ l i c, List.drop_eq_getElem_cons c, List.any_cons]; have hbad : timeB l[i].f0 = true → U (fun k => r09_Norm.j2 k l ((l.take i).foldl placeS []) (i : Int) true) (if (timeB l[i].f0 || (l.drop (i + 1)).any (fun x => timeB x.f0)) = true then ([], 13) else toldJ (toldI (placesI l) ((placesI l).map (valI l)) 0)) := fun h => by
    rw [h, Bool.true_or, if_pos rfl]; refine EvP.U.succ ?_; simp only [r09_Norm.j2]; exact EvP.U.pos trivial (EvP.U.some _)
   by_cases c1 : l[i].f0 < -1
   ·exact EvP.U.pos c1 (hbad (by unfold timeB; simp [c1]))
   refine EvP.U.neg c1 ?_
   by_cases c2 : l[i].f0 > 1125899906842624
   ·rw [decide_eq_true c2]; exact hbad (by unfold timeB; simp [c2])
   rw [decide_eq_false c2]; have ht : timeB l[i].f0 = false := by unfold timeB; simp [c1, c2]
   rw [ht, Bool.false_or]; refine EvP.U.succ ?_; simp only [r09_Norm.j2]; refine EvP.U.neg zq34 (EvP.U.pos zq4 (EvP.U.pos zq4 ?_)); rw [rdJ l i c, wrapN i zq4]; have hst : (l.take (i + 1)).foldl placeS [] = placeS ((l.take i).foldl placeS []) l[i] := by
    rw [show l.take (i + 1) = l.take i ++ [l[i]] by rw [List.take_add_one, List.getElem?_eq_getElem c]; rfl, List.foldl_append]; rfl
   have hln := hlen (l.take i) []; rw [List.length_take, List.length_nil] at hln; have next : U (fun k => r09_Norm.l1 k l ((l.take (i + 1)).foldl placeS []) ((i + 1 : Nat) : Int)) (if (l.drop (i + 1)).any (fun x => timeB x.f0) = true then ([], 13) else toldJ (toldI (placesI l) ((placesI l).map (valI l)) 0)) := by
    match m, hm with
    | 0, hm => omega
    | m + 1, hm => exact norm_l1 l hf hl m (i + 1) zq4 zq4
   by_cases c3 : l[i].f0 < 1125899906842624
   ·refine EvP.U.pos c3 (EvP.U.bind (with09 _ _ zq4 (places_fold (l.take i) [] List.Pairwise.nil).1) ?_)
    rw [hst, placeS, if_pos c3] at next; exact next
   ·refine EvP.U.neg c3 ?_
    rw [hst, placeS, if_neg c3] at next; exact next
  ·obtain rfl : i = l.length := by omega
   refine EvP.U.neg zq4 ?_; rw [List.take_length, List.drop_eq_nil_of_le (Nat.le_refl _)]; have := hlen l []; rw [List.length_nil] at this; have h2 := norm_l2 l (placesI l) hf hl (by unfold placesI; omega) _ 0 rfl (Nat.zero_le _)
   simpa [placesI] using h2
theorem norm_l0 (l : List Jp) (hl : l.length ≤ 1000000) : ∀ (m i : Nat), l.length - i = m → i ≤ l.length → (∀ x ∈ l.take i, -1048576 ≤ x.f1 ∧ x.f1 ≤ 1048576) → U (fun k => r09_Norm.l0 k l (i : Int)) (if (l.drop i).any (fun x => !fairB x.f1) = true then ([], 2) else if l.any (fun x => timeB x.f0) = true then ([], 13) else toldJ (toldI (placesI l) ((placesI l).map (valI l)) 0))
 | m, i, hm, hi, hx => by
  refine EvP.U.succ ?_; simp only [r09_Norm.l0]
  by_cases c : i < l.length
  ·refine EvP.U.pos zq4 (EvP.U.pos zq4 ?_)
   rw [rdJ l i c, List.drop_eq_getElem_cons c, List.any_cons, wrapN i zq4]
   by_cases c1 : l[i].f1 > 1048576
   ·have : fairB l[i].f1 = false := by unfold fairB; rw [decide_eq_false zq4, Bool.false_and]
    rw [this, Bool.not_false, Bool.true_or, if_pos rfl]; exact EvP.U.pos c1 (EvP.U.some _)
   refine EvP.U.neg c1 ?_
   by_cases c2 : l[i].f1 < -1048576
   ·have : fairB l[i].f1 = false := by unfold fairB; rw [decide_eq_false (show ¬(-1048576 ≤ l[i].f1) by omega), Bool.and_false]
    rw [this, Bool.not_false, Bool.true_or, if_pos rfl]; exact EvP.U.pos c2 (EvP.U.some _)
   refine EvP.U.neg c2 ?_; have : fairB l[i].f1 = true := by unfold fairB; rw [decide_eq_true zq4, decide_eq_true zq4]; rfl
   rw [this, Bool.not_true, Bool.false_or]
   match m, hm with
   | 0, hm => omega
   | m + 1, hm => exact norm_l0 l hl m (i + 1) zq4 zq4 (fun x h => by
     rw [show l.take (i + 1) = l.take i ++ [l[i]] by rw [List.take_add_one, List.getElem?_eq_getElem c]; rfl, List.mem_append] at h
     rcases h with h | h
     ·exact hx x h
     ·rw [List.mem_singleton] at h; subst h; omega)
  ·obtain rfl : i = l.length := by omega
   rw [List.take_length] at hx; refine EvP.U.neg zq4 ?_; rw [List.drop_eq_nil_of_le (Nat.le_refl _)]; have := norm_l1 l hx hl _ 0 rfl (Nat.zero_le _)
   simpa using this
theorem told_mem (ps : List Int) : ∀ (vs : List Int) (was : Int), ∀ x ∈ toldI ps vs was, x.f0 ∈ ps := by
 induction ps with
 | nil => intro vs was x hx; rw [toldI] at hx; simp at hx; simp
 | cons p ps ih =>
  intro vs was x hx; cases vs with
  | nil => rw [toldI] at hx; simp at hx; simp
  | cons v vs =>
   rw [toldI, List.mem_append] at hx
   rcases hx with hx | hx
   ·split at hx
    ·simp at hx
    ·rw [List.mem_singleton] at hx; subst hx; exact List.mem_cons_self
   ·exact List.mem_cons_of_mem _ (ih vs v x hx)
theorem told_is (ps : List Int) (h : ps.Pairwise (· < ·)) : ∀ (vs : List Int) (was : Int), IsCanon ltI ((toldI ps vs was).map pJ) := by
 induction ps with
 | nil => intro vs was; rw [toldI]; exact ⟨List.Pairwise.nil, by simp⟩; simp
 | cons p ps ih =>
  intro vs was; have h2 := List.pairwise_cons.1 h; cases vs with
  | nil => rw [toldI]; exact ⟨List.Pairwise.nil, by simp⟩; simp
  | cons v vs =>
   rw [toldI]; have r := ih h2.2 vs v
   split
   ·rw [List.nil_append]; exact r
   ·rename_i c
    refine ⟨?_, fun x hx => ?_⟩
    ·rw [List.singleton_append, List.map_cons]
     refine List.pairwise_cons.2 ⟨fun y hy => ?_, r.1⟩; obtain ⟨z, hz, rfl⟩ := List.mem_map.1 hy; have := h2.1 _ (told_mem ps vs v z hz); exact decide_eq_true this
    ·rw [List.singleton_append, List.map_cons] at hx
     rcases List.mem_cons.1 hx with rfl | hx
     ·show v - was ≠ 0
      omega
     ·exact r.2 x hx
theorem val_diff (q p : Int) (hqp : q < p) : ∀ l : List Jp, (∀ x ∈ l, q < x.f0 → x.f0 ≤ p → x.f0 = p) → valI l p - valI l q = J (l.map pJ) p
 | [], _ => by simp [valI, J_nil]
 | x :: xs, h => by
  have r := val_diff q p hqp xs (fun y hy => h y (List.mem_cons_of_mem _ hy)); have hx := h x List.mem_cons_self; rw [List.map_cons, J_cons, ← r]
  show ((if x.f0 ≤ p then x.f1 else 0) + valI xs p) - ((if x.f0 ≤ q then x.f1 else 0) + valI xs q) = (if x.f0 = p then x.f1 else 0) + (valI xs p - valI xs q)
  by_cases c1 : x.f0 ≤ q
  ·rw [if_pos zq4, if_pos c1, if_neg zq4]; omega
  ·by_cases c2 : x.f0 ≤ p
   ·rw [if_pos c2, if_neg c1, if_pos (hx zq4 c2)]; omega
   ·rw [if_neg c2, if_neg c1, if_neg zq4]; omega
theorem J_zero (l : List Jp) (k : Int) (h : ∀ x ∈ l, x.f0 ≠ k) : J (l.map pJ) k = 0 := J_none k _ (fun y hy => by
 obtain ⟨x, hx, rfl⟩ := List.mem_map.1 hy; exact h x hx)
theorem told_J (l : List Jp) (ps : List Int) : ∀ (q : Int), ps.Pairwise (· < ·) → (∀ p ∈ ps, q < p ∧ p < 1125899906842624) → (∀ x ∈ l, q < x.f0 → x.f0 < 1125899906842624 → x.f0 ∈ ps) → ∀ k, J ((toldI ps (ps.map (valI l)) (valI l q)).map pJ) k = if q < k ∧ k < 1125899906842624 then J (l.map pJ) k else 0 := by
 induction ps with
 | nil =>
  intro q _ _ h3 k; rw [toldI]
  ·split
   ·rename_i c
    rw [J_zero l k (fun x hx e => by have := h3 x hx zq4 zq4; simp at this)]; rfl
   ·rfl
  ·simp
 | cons p ps ih =>
  intro q h1 h2 h3 k; have h1' := List.pairwise_cons.1 h1; have hp := h2 p List.mem_cons_self; have r := ih p h1'.2 (fun z hz => ⟨h1'.1 z hz, (h2 z (List.mem_cons_of_mem _ hz)).2⟩) (fun x hx c1 c2 => by
   rcases List.mem_cons.1 (h3 x hx zq4 c2) with e | e
   ·omega
   ·exact e) k
  have hd := val_diff q p hp.1 l (fun x hx c1 c2 => by
   rcases List.mem_cons.1 (h3 x hx c1 zq4) with e | e
   ·exact e
   ·have := h1'.1 _ e; omega)
  rw [List.map_cons, toldI, List.map_append, J_append, r]; have hhead : J ((if valI l p = valI l q then [] else [(⟨p, valI l p - valI l q⟩ : Jp)]).map pJ) k = if p = k then valI l p - valI l q else 0 := by
   split
   ·rename_i c
    rw [List.map_nil, J_nil]
    split <;> omega
   ·rw [List.map_cons, List.map_nil, J_cons, J_nil]
    show (if p = k then valI l p - valI l q else 0) + 0 = _
    rw [Int.add_zero]
  rw [hhead, hd]
  by_cases c : p = k
  ·subst c
   rw [if_pos rfl, if_neg zq4, if_pos hp]; omega
  ·rw [if_neg c]
   by_cases c1 : p < k ∧ k < 1125899906842624
   ·rw [if_pos c1, if_pos ⟨by omega, c1.2⟩]; omega
   ·rw [if_neg c1]
    split
    ·rename_i c2
     rw [J_zero l k (fun x hx e => by
      rcases List.mem_cons.1 (h3 x hx zq4 zq4) with e' | e'
      ·omega
      ·have := h1'.1 _ e'; omega)]; rfl
    ·rfl
theorem val_low (q : Int) : ∀ l : List Jp, (∀ x ∈ l, q < x.f0) → valI l q = 0
 | [], _ => rfl
 | x :: xs, h => by
  have := h x List.mem_cons_self; rw [valI, if_neg zq4, val_low q xs (fun y hy => h y (List.mem_cons_of_mem _ hy))]; rfl
theorem told_canon (l : List Jp) (h : ∀ x ∈ l, -1 ≤ x.f0) : toldI (placesI l) ((placesI l).map (valI l)) 0 = canonJ l := by
 obtain ⟨hs, hm⟩ := places_fold l [] List.Pairwise.nil; have hz := val_low (-2) l (fun x hx => by have := h x hx; omega); have hJ := told_J l (placesI l) (-2) hs (fun p hp => by
  rcases (hm p).1 hp with e | ⟨x, hx, e, e2⟩
  ·simp at e
  ·have := h x hx; omega) (fun x hx _ c2 => (hm _).2 (.inr ⟨x, hx, rfl, c2⟩))
 rw [hz] at hJ; have e := canon_eq ltI_ord (told_is (placesI l) hs ((placesI l).map (valI l)) 0) (l := (l.map pJ).filter fun x => decide (x.1 < 1125899906842624)) (fun k => by
  rw [hJ k, J_filterK (fun z => decide (z < 1125899906842624)) k]
  by_cases c : k < 1125899906842624
  ·by_cases c2 : -2 < k
   ·rw [if_pos ⟨c2, c⟩, if_pos (decide_eq_true c)]
   ·rw [if_neg zq4, if_pos (decide_eq_true c), J_zero l k (fun x hx e => by have := h x hx; omega)]
  ·rw [if_neg zq4, if_neg (by simpa using c)])
 unfold canonJ; rw [← e, List.map_map]; have : (uJ ∘ pJ) = id := by funext x; exact uJ_pJ x
 rw [this, List.map_id]
theorem norm09 (l : List Jp) (hl : l.length ≤ 1000000) : U (fun k => r09_Norm.f k l) (normJ l) := by
 have := norm_l0 l hl _ 0 rfl (Nat.zero_le _) zq30; rw [List.drop_zero] at this; unfold r09_Norm.f; refine EvP.U.congr_r this ?_; unfold normJ
 split
 ·rfl
 ·split
  ·rfl
  ·rename_i h
   rw [told_canon l (fun x hx => by
    by_cases c : x.f0 < -1
    ·exact absurd (List.any_eq_true.2 ⟨x, hx, by unfold timeB; simp [c]⟩) h
    ·omega)]
end Go.Proofs.YtmkgecapkeojaaaGreat.Eg
end
