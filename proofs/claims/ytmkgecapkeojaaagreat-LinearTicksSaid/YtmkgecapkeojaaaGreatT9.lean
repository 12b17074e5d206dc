/- Texts of this claim, put together by a program: Become, Proj, PlN, Told2, HSame, Live, LawF, LiveP, LawFW, Flat, Pl9, Pl9b, Pl10, PlR, Concat, SumsP, RefPut, RefNorm, RefProj, LawP, Any. -/
import Derived.Test.YtmkgecapkeojaaaGreatT8
import Derived.Deep.DeepCutAuto
set_option linter.unusedVariables false
set_option linter.unusedSimpArgs false
set_option maxHeartbeats 8000000
set_option maxRecDepth 100000
section
namespace Go.Proofs.YtmkgecapkeojaaaGreat.Eg
open Go.Proofs.YtmkgecapkeojaaaGreat Go.Proofs.YtmkgecapkeojaaaGreat.PDa
open Go.RowKit Go.Proofs.YtmkgecapkeojaaaGreatW.PrintWords Go.Proofs.YtmkgecapkeojaaaGreatW.PrintLast Go.Proofs.YtmkgecapkeojaaaGreatW.PrintMore
open Go.Proofs.YtmkgecapkeojaaaGreat.SortM Go.Proofs.YtmkgecapkeojaaaGreat.Run Go.Proofs.YtmkgecapkeojaaaGreat.Stp Go.Proofs.YtmkgecapkeojaaaGreat.Rw
attribute [local go_sem] Oper.semAt_some
def becR (bb : List Vl → List Vl × Int) (out : List EdP) : List (List Vl × List Jp) → List EdP × Int
 | [] => (out, 0)
 | x :: xs => if (bb x.1).2 ≠ 0 then ([], (bb x.1).2) else becR bb (out ++ buildP (bb x.1).1 x.2) xs
theorem becR_drop (bb : List Vl → List Vl × Int) (out : List EdP) (l : List (List Vl × List Jp)) (k : Nat) (x : List Vl × List Jp) (h : l[k]? = some x) :
  becR bb out (l.drop k) = if (bb x.1).2 ≠ 0 then ([], (bb x.1).2) else becR bb (out ++ buildP (bb x.1).1 x.2) (l.drop (k + 1)) := by
 obtain ⟨hk, hx⟩ := List.getElem?_eq_some_iff.1 h; rw [List.drop_eq_getElem_cons hk, hx, becR]
def BecIs (bb : List Vl → List Vl × Int) (l : List EdP) (r : List EdP × Int) : Prop :=
 ((becR bb [] (runsP l)).2 ≠ 0 ∧ r = ([], (becR bb [] (runsP l)).2)) ∨ ((becR bb [] (runsP l)).2 = 0 ∧ NormIs (becR bb [] (runsP l)).1 r)
def bec.T8 : Bool × List (List Nat × List Nat) := (true, [([], []), ([], []), ([], []), ([1, 2], [1, 2]), ([0, 3, 3], [0, 3]), ([4, 4, 0, 1, 2, 3, 4], [4])])
def bec.B8 : List Nat := [0, 0, 0, 6, 15, 31]
theorem bec.tab8 : rtab .any (opsOf Tryz.f54 8) = bec.T8 := by kernel_rfl
theorem bec.bits8 : waitsOk bec.T8.2 bec.B8 = true := by kernel_rfl
theorem become_calls (bb : List Vl → List Vl × Int) (fn : Nat) (cap : Array Value) (A0 : Option Addr) (c0 : Nat) (l : List EdP) (w : World) (hr0 : Kd.C kE w A0 l.length l) (hmay : mayE l = true) (hrow : ∀ e ∈ l, e.f0.length ≤ 4398046511104)
  (hfn : ∀ args w, (callFunc fn args).run Tryz.prog w = .ok (.enter fn args) w)
  (hby : ∀ (e0 : EdP), e0 ∈ l → ∀ (A : Option Addr) (c : Nat) (W1 : World), Below w.heap.size w W1 → Kd.R kV tV W1 0 (fun _ => True) (.slice A e0.f0.length c) e0.f0 →
   Calls Tryz.prog fn (#[.slice A e0.f0.length c] ++ cap) W1 fun e w' => ∃ v, e = .returned (.tuple #[v, .int .i64 (bb e0.f0).2]) ∧ Kd.R kV tV w' 0 (fun _ => True) v (bb e0.f0).1 ∧ Below W1.heap.size W1 w') :
  Calls Tryz.prog 54 #[.slice A0 l.length c0, .func (.func fn) #[] cap] w fun e w' => ∃ v r, BecIs bb l r ∧ e = .returned (.tuple #[v, .int .i64 r.2]) ∧ Kd.R kE tE w' w.heap.size (fun _ => True) v r.1 ∧ Below w.heap.size w w' := by
 have hu22 : Tryz.prog.underlying 22 = some (.slice 41) := by kernel_rfl
 have RC := Lib.hid (Groups_calls A0 c0 l.length); have HR := Lib.hid hr0; have HRW := Lib.hid hrow; have HM := Lib.hid hmay; have HBY := Lib.hid hby
 clear hr0 hrow hby hmay; refine (callsIn_wide (n := 12)).1 ?_; refine callsIn_of_wp_marks Tryz.func54 rfl trivial ?_ rfl; simp only [Tryz.ntmps54, List.size_toArray, List.length_cons, List.length_nil, Nat.reduceAdd, Nat.reduceSub, Array.replicate_succ, Array.replicate_zero, List.push_toArray, List.append_toArray, List.nil_append, List.cons_append]
 gi_wp2_with (refine ⟨trivial, ?_⟩; (with_reducible refine (callsIn_wide.2 (RC.out _)).mono ?_); rintro e w1 ⟨rfl, rfl⟩)
 obtain ⟨W1, hW1⟩ : ∃ W1, ((((w.alloc (.cells #[.func (.func fn) #[] cap] 78 (0, 0))).alloc (.cells #[.slice none 0 0] 22 (0, 0))).alloc (.cells #[.int .i64 0] 27 (0, 0))).alloc (.cells #[] 41 (0, 0))).alloc (.cells #[.slice (some ⟨w.heap.size + 1 + 1 + 1, 0, none⟩) 0 0] 22 (0, 0)) = W1 := ⟨_, rfl⟩
 have hsW1 : W1.heap.size = w.heap.size + 5 := by rw [← hW1]; simp
 have hbW1 : Below w.heap.size w W1 := by rw [← hW1]; exact below_alloc (below_alloc (below_alloc (below_alloc (below_alloc (Below.refl _ w) _) _) _) _) _
 have bx3 : W1.heap[w.heap.size]? = some (.cells #[.func (.func fn) #[] cap] 78 (0, 0)) := by
  have h1 := blk_new (w) (.cells #[.func (.func fn) #[] cap] 78 (0, 0)); rw [← hW1]; exact blk_alloc (blk_alloc (blk_alloc (blk_alloc (h1) _) _) _) _
 have bx4 : W1.heap[w.heap.size + 1]? = some (.cells #[.slice none 0 0] 22 (0, 0)) := by
  have h1 := blk_new (w.alloc (.cells #[.func (.func fn) #[] cap] 78 (0, 0))) (.cells #[.slice none 0 0] 22 (0, 0)); rw [World.size_alloc] at h1; rw [← hW1]; exact blk_alloc (blk_alloc (blk_alloc (h1) _) _) _
 have bx5 : W1.heap[w.heap.size + 1 + 1]? = some (.cells #[.int .i64 0] 27 (0, 0)) := by
  have h1 := blk_new ((w.alloc (.cells #[.func (.func fn) #[] cap] 78 (0, 0))).alloc (.cells #[.slice none 0 0] 22 (0, 0))) (.cells #[.int .i64 0] 27 (0, 0)); rw [World.size_alloc, World.size_alloc] at h1; rw [← hW1]; exact blk_alloc (blk_alloc (h1) _) _
 have bk0 : W1.heap[w.heap.size + 1 + 1 + 1]? = some (.cells #[] 41 (0, 0)) := by
  have h1 := blk_new (((w.alloc (.cells #[.func (.func fn) #[] cap] 78 (0, 0))).alloc (.cells #[.slice none 0 0] 22 (0, 0))).alloc (.cells #[.int .i64 0] 27 (0, 0))) (.cells #[] 41 (0, 0)); rw [World.size_alloc, World.size_alloc, World.size_alloc] at h1; rw [← hW1]; exact blk_alloc (h1) _
 have bx6 : W1.heap[w.heap.size + 1 + 1 + 1 + 1]? = some (.cells #[.slice (some ⟨w.heap.size + 1 + 1 + 1, 0, none⟩) 0 0] 22 (0, 0)) := by
  have h1 := blk_new ((((w.alloc (.cells #[.func (.func fn) #[] cap] 78 (0, 0))).alloc (.cells #[.slice none 0 0] 22 (0, 0))).alloc (.cells #[.int .i64 0] 27 (0, 0))).alloc (.cells #[] 41 (0, 0))) (.cells #[.slice (some ⟨w.heap.size + 1 + 1 + 1, 0, none⟩) 0 0] 22 (0, 0)); rw [World.size_alloc, World.size_alloc, World.size_alloc, World.size_alloc] at h1; rw [← hW1]; exact h1
 have hit := groups_iter 11 zq4 A0 c0 l w W1 HR.out hbW1 HM.out HRW.out; obtain ⟨its, hits⟩ : ∃ x, runsP l = x := ⟨_, rfl⟩
 have HIM := Lib.hid (fun x (h : x ∈ its) => runs_mem l x (by rw [hits]; exact h)); have HIL := Lib.hid (show its.length ≤ 4096 by rw [← hits]; exact Nat.le_trans (runs_len l) (mayE_len HM.out)); have HE := Lib.hid hits; rw [hits] at hit; have HBI := Lib.hid (fun r (h : (((becR bb [] its).2 ≠ 0 ∧ r = ([], (becR bb [] its).2)) ∨ ((becR bb [] its).2 = 0 ∧ NormIs (becR bb [] its).1 r))) => (show BecIs bb l r by unfold BecIs; rw [hits]; exact h)); have e5 : w.heap.size + 1 + 1 + 1 + 1 + 1 = W1.heap.size := by omega
 rw [hW1, e5]; obtain ⟨W2, hW2⟩ : ∃ W2, W1.alloc (.cells #[.slice A0 l.length c0] 22 (0, 0)) = W2 := ⟨_, rfl⟩
 have HS2 := Lib.hid (show W2.heap.size = w.heap.size + 6 by rw [← hW2, World.size_alloc, hsW1]); have HS1 := Lib.hid hsW1; have HB2 := Lib.hid (show Below w.heap.size w W2 by rw [← hW2]; exact below_alloc hbW1 _); have HX3 := Lib.hid (show Boxed W2 w.heap.size 78 (.func (.func fn) #[] cap) by rw [← hW2]; exact blk_alloc bx3 _); have HX4 := Lib.hid (show Boxed W2 (w.heap.size + 1) 22 (.slice none 0 0) by rw [← hW2]; exact blk_alloc bx4 _); have HX5 := Lib.hid (show Boxed W2 (w.heap.size + 1 + 1) 27 (.int .i64 0) by rw [← hW2]; exact blk_alloc bx5 _); have HX6 := Lib.hid (show Boxed W2 (w.heap.size + 1 + 1 + 1 + 1) 22 (.slice (some ⟨w.heap.size + 1 + 1 + 1, 0, none⟩) 0 0) by rw [← hW2]; exact blk_alloc bx6 _); have HO2 := Lib.hid (show Kd.R kE tE W2 w.heap.size (fun _ => True) (.slice (some ⟨w.heap.size + 1 + 1 + 1, 0, none⟩) 0 0) [] from ⟨fun _ _ => trivial, [], ⟨rfl, .inr ⟨w.heap.size + 1 + 1 + 1, 0, #[], rfl, by omega, by rw [← hW2]; exact blk_alloc bk0 _, Nat.le_refl _, Nat.zero_le _, rfl, rfl⟩⟩, Reps.none _ _⟩); rw [hW2] at hit ⊢; have HIT := Lib.hid hit; clear hW1 hW2 hsW1 hbW1 bx3 bx4 bx5 bx6 bk0 hit e5 hits; have hS0 : ∀ b, (fun b => OwnS (w.heap.size + 1 + 1 + 1 + 1) (.slice (some ⟨w.heap.size + 1 + 1 + 1, 0, none⟩) 0 0) b ∨ (b = w.heap.size + 1 ∨ b = w.heap.size + 1 + 1)) b → ¬ (b < w.heap.size ∨ b = W1.heap.size) ∧ b < W2.heap.size := by
  intro b hb; have h1 := HS1.out; have h2 := HS2.out
  rcases hb with (rfl | hb) | hb
  ·omega
  ·have : w.heap.size + 1 + 1 + 1 = b := by simpa [Value.ownBlock] using hb
   omega
  ·omega
 refine range_outer (F := Fence.wide) rfl zq4 (gf := 84) (lb := #[.pointer (some ⟨W1.heap.size, 0, none⟩)]) rfl trivial (enters_of Tryz.func84 zq17 rfl) HIT.out (Keeps.refl _ _) (fun x args W h => by obtain ⟨_, _, _, _, rfl, _⟩ := h; rfl)
  (fun k S W => ∃ v out, S = (fun b => OwnS (w.heap.size + 1 + 1 + 1 + 1) (v) b ∨ (b = w.heap.size + 1 ∨ b = w.heap.size + 1 + 1)) ∧ Boxed W w.heap.size 78 (.func (.func fn) #[] cap) ∧ Boxed W (w.heap.size + 1) 22 (.slice none 0 0) ∧ Boxed W (w.heap.size + 1 + 1) 27 (.int .i64 0) ∧
   Boxed W (w.heap.size + 1 + 1 + 1 + 1) 22 v ∧ Kd.R kE tE W w.heap.size (fun _ => True) v out ∧ Below w.heap.size w W ∧ (out.length ≤ k * 1024 ∧ becR bb [] its = becR bb out (its.drop k)))
  (fun c S W => c = .ret ∧ ∃ e, Boxed W (w.heap.size + 1) 22 (.slice none 0 0) ∧ Boxed W (w.heap.size + 1 + 1) 27 (.int .i64 e) ∧ Below w.heap.size w W ∧ becR bb [] its = ([], e) ∧ e ≠ 0)
  (fun x args a' W => ∃ Ar cr Aj cj, args = #[.slice Ar x.1.length cr, .slice Aj x.2.length cj] ∧ a' = { tmps := #[.slice A0 l.length c0, .func (.func fn) #[] cap, undef, .pointer (some ⟨w.heap.size, 0, none⟩), .pointer (some ⟨w.heap.size + 1, 0, none⟩), .pointer (some ⟨w.heap.size + 1 + 1, 0, none⟩), .pointer (some ⟨w.heap.size + 1 + 1 + 1 + 1, 0, none⟩), .slice Ar x.1.length cr, .slice Aj x.2.length cj, undef, undef, .slice (some ⟨w.heap.size + 1 + 1 + 1, 0, none⟩) 0 0, .slice A0 l.length c0, .func (.func 84) #[] #[.pointer (some ⟨W1.heap.size, 0, none⟩)], .slice Ar x.1.length cr, .slice Aj x.2.length cj, undef, undef, undef, undef, undef, undef, undef, undef, undef, undef, undef, undef, undef, undef, undef, undef, undef, undef], defers := [] })
  (fun k S => Grow.ex fun v => Grow.ex fun out => (Grow.const _ _).and ((Grow.boxed _ _ _ _).and ((Grow.boxed _ _ _ _).and ((Grow.boxed _ _ _ _).and ((Grow.boxed _ _ _ _).and ((Grow.R _ _ _ _ _ _).and ((Grow.base (by have := HS2.out; omega) w (Nat.le_refl _)).and (Grow.const _ _))))))))
  (fun c S => (Grow.const _ _).and (Grow.ex fun e => (Grow.boxed _ _ _ _).and ((Grow.boxed _ _ _ _).and ((Grow.base (by have := HS2.out; omega) w (Nat.le_refl _)).and (Grow.const _ _))))) (fun x args => Grow.phi _ _ _)
  (fun x args a' => Grow.const _ _)
  (fun b => OwnS (w.heap.size + 1 + 1 + 1 + 1) (.slice (some ⟨w.heap.size + 1 + 1 + 1, 0, none⟩) 0 0) b ∨ (b = w.heap.size + 1 ∨ b = w.heap.size + 1 + 1)) hS0 ⟨_, [], rfl, HX3.out, HX4.out, HX5.out, HX6.out, HO2.out, HB2.out, Nat.zero_le _, by rw [List.drop_zero]⟩ ?assign ?body ?done ?stop
 case assign =>
  rintro l' k S x args W K hx hi ⟨Ar, cr, Aj, cj, rfl, hphi⟩ hK; clear hi hphi; gi_wp2; exact hK _ _ (Below.refl _ W) ⟨Ar, cr, Aj, cj, rfl, rfl⟩
 case body =>
  rintro l' k S x args a' W hl' ⟨r, hr⟩ hx hSb hSl hkR ⟨v, out, rfl, bx3, bx4, bx5, bx6, hRo, hBW, hout, hEE⟩ ⟨Ar, cr, Aj, cj, he1, hRr, hRj⟩ ⟨Ar2, cr2, Aj2, cj2, he2, rfl⟩; rw [he1] at he2; cases he2; dsimp only []; have hxm := HIM.out x (List.mem_of_getElem? hx); have HH := Lib.hid (becR_drop bb out its k x hx); obtain ⟨e0, he0, hy1⟩ := hxm.1; have HK := Lib.hid (show k < 4096 by have h1 := (List.getElem?_eq_some_iff.1 hx).1; have := HIL.out; omega); have HV := Lib.hid (fun (w1 : World) (h : Below W.heap.size W w1) => HBY.out e0 he0 Ar cr w1 (hBW.trans (h.mono hBW.size)) (by rw [← hy1]; exact Kd.R_below hRr h)); rw [← hy1] at HV; obtain ⟨⟨sr, he⟩, hhb⟩ : ∃ z, bb x.1 = z := ⟨_, rfl⟩
  rw [hhb] at HV HH; have HRJ := Lib.hid hRj; have HBX3 := Lib.hid bx3; have HBX4 := Lib.hid bx4; have HBX5 := Lib.hid bx5; have HBX6 := Lib.hid bx6; have HRO := Lib.hid hRo; have HBW := Lib.hid hBW; have HEE := Lib.hid hEE; have HOUT := Lib.hid hout; have HSB := Lib.hid hSb; have cl3 := bx3.cell; clear hRr hRj bx3 bx4 bx5 bx6 hBW hEE hx he1 hSb hSl hkR hr hl' hRo hout hxm hhb hy1 he0; gi_wp2; refine ⟨trivial, ?_⟩; refine (CallsIn.inRound l' (callsIn_wide.2 (HV.out _ (Below.refl _ W)))).mono ?_; rintro e w6 ⟨vs, rfl, hRs, hb6⟩; obtain ⟨As, cs, rfl⟩ := Kd.R_slice hRs; have HRS := Lib.hid hRs; have HB6 := Lib.hid hb6; clear hb6 hRs; have HQ3 := Lib.hid (Boxed.below HBX3.out HB6.out); have HQ4 := Lib.hid (Boxed.below HBX4.out HB6.out); have HQ5 := Lib.hid (Boxed.below HBX5.out HB6.out); have HQ7 := Lib.hid (Boxed.below HBX6.out HB6.out)
  by_cases hee : he = 0
  ·have be : (he == 0) = true := by rw [hee]; rfl
   have HH2 := Lib.hid (show becR bb [] its = becR bb (out ++ buildP sr x.2) (its.drop (k + 1)) by rw [HEE.out, HH.out, if_neg (by simp [hee])]); clear hee; obtain ⟨o2, ho2⟩ : ∃ o2, out ++ buildP sr x.2 = o2 := ⟨_, rfl⟩
   have HL2 := Lib.hid (show o2.length ≤ (k + 1) * 1024 by have h1 := HOUT.out; have h3 := buildP_len sr x.2; rw [← ho2, List.length_append]; omega); rw [ho2] at HH2; have HO2 := Lib.hid ho2; clear ho2; gi_wp2; have HD6 := Lib.hid (below_drew1 HB6.out); have c7 : w6.drew.cell? ⟨w.heap.size + 1 + 1 + 1 + 1, 0, none⟩ = some v := HQ7.out.cell; have HU3 := Lib.hid (show Boxed w6.drew w.heap.size 78 (.func (.func fn) #[] cap) from HQ3.out); have HU4 := Lib.hid (show Boxed w6.drew (w.heap.size + 1) 22 (.slice none 0 0) from HQ4.out); have HU5 := Lib.hid (show Boxed w6.drew (w.heap.size + 1 + 1) 27 (.int .i64 0) from HQ5.out); have HU7 := Lib.hid (show Boxed w6.drew (w.heap.size + 1 + 1 + 1 + 1) 22 v from HQ7.out); have HRD6 := Lib.hid (Kd.R_below HRO.out HD6.out); have HRSD := Lib.hid (Kd.R_drew HRS.out); have HRJD := Lib.hid (Kd.R_below HRJ.out HD6.out); have HOWN := Lib.hid (fun b (h : v.ownBlock = some b) => (own_ltR HRD6.out h).2); clear HQ3 HQ4 HQ5 HQ7 HB6 cl3; refine startIn_ (m := 6) (S := fun w' => w'.cell? ⟨w.heap.size + 1 + 1 + 1 + 1, 0, none⟩ = some v) (ds := [4, 5]) (fun ⟨_, _, h⟩ => h) zq17 #[false, false, false, false, false, false] zq17 rfl rfl (c7) (fun hHeld => ?_); refine with_tabW bec.tab8 bec.bits8 (fun HT_ HW_ => ?_); generalize w6.drew = wD at c7 HD6 HU3 HU4 HU5 HU7 HRD6 HOWN HRSD HRJD hHeld ⊢; refine pZ 1 26 ?_; refine pZ 2 27 ?_; refine take_ (i := 0) (N := some 25) (v := ?_) (a' := ?_) #[true, true, true, false, false, false] rfl rfl (take_ofW HT_.out HW_.out zq17) (fun _ _ _ h => h) (Or.inl ⟨by rfl, ?_⟩) hHeld ?_ ?_; rotate_left
   ·intro w' s0
    go_simp
    with_reducible rfl
   rotate_left
   ·simp only [Act.put, List.setIfInBounds_toArray, List.set_cons_zero, List.set_cons_succ, i64_w, i32_w]
    rfl
   refine oZ 3 28 (fun K hK => ?_); refine goes_ Tryz.func49 zq17 rfl #[.slice As sr.length cs, .slice Aj x.2.length cj] (by rfl) rfl rfl zq67 ?_
   with_reducible refine (Build_calls As cs sr Aj cj x.2 wD HRSD.out HRJD.out).mono ?_
   rintro e w7 ⟨vb, rfl, hRb, hb7⟩; refine ⟨_, rfl, ?_⟩; obtain ⟨Ab, cb, rfl, hcb, hRd⟩ := OwnRow.reads hRb.2; have HRD := Lib.hid hRd; have HB7 := Lib.hid hb7; clear hRb hcb hRd hb7; refine hK.out _ _ (pw_cell_below HB7.out c7) (fun hHeld => ?_); clear hK K; refine nZ 28 ?_; refine last_ (i := 4) (N := some 29) #[true, true, true, true, true, false] rfl rfl (one_of HT_.out zq17) zq34 (fun K hK => ?_); refine Kd.R_append_rows_step kE (w0 := w7) w.heap.size (by rfl) (.tmp 25) (.tmp 28) 22 41 (.agg #[.slice none 0 0, (.int .i64 0), (.int .i64 0)]) 40 rfl hu22 info41 rfl zq34 zq4 v out (buildP sr x.2) _ _ _ (fun _ => True) (fun k => wD.heap.size ≤ k) rfl rfl ?aO HRD.out ?aM ?aK (fun _ _ => trivial) (Below.refl _ _) ?aS ?aL ?_
   case aO => exact Kd.R_below HRD6.out HB7.out
   case aM => exact fun z cs h => kE.M_lower (Nat.le_trans HBW.out.size HD6.out.size) (kE.M_mono (fun q hq => hq.2.1) (kE.M_bound h))
   case aK => exact fun q hq => ⟨trivial, fun e' => Nat.lt_irrefl _ (Nat.lt_of_lt_of_le (HOWN.out q e'.symm) hq)⟩
   case aS => exact Nat.le_trans HBW.out.size (Nat.le_trans HD6.out.size HB7.out.size)
   case aL => have h1 := HOUT.out; have h2 := HK.out; have h3 := buildP_len sr x.2; omega
   intro v1 w8 ho hb hg hat; rw [HO2.out] at ho; obtain ⟨Az, cz, rfl⟩ := Kd.R_slice ho; have HR7 := Lib.hid (Kd.R_below HRD6.out HB7.out); have HT7 := Lib.hid (Boxed.below HU7.out HB7.out); obtain ⟨z1, z2, z3, z4, z5⟩ := box_Rt HT7.out HR7.out zq34 ho hg hat; have d7 := z1.cell; have g7 := z1.frozen; have HK3 := Lib.hid ((Boxed.below HU3.out HB7.out).kept hg (Kd.R_ne HR7.out (Boxed.below HU3.out HB7.out) zq34)); have HK4 := Lib.hid ((Boxed.below HU4.out HB7.out).kept hg (Kd.R_ne HR7.out (Boxed.below HU4.out HB7.out) zq34)); have HK5 := Lib.hid ((Boxed.below HU5.out HB7.out).kept hg (Kd.R_ne HR7.out (Boxed.below HU5.out HB7.out) zq34)); have HG := Lib.hid hg; have HZ2 := Lib.hid z2; have HZ3 := Lib.hid z3; have HZ4 := Lib.hid z4; have HZ5 := Lib.hid z5; clear z1 z2 z3 z4 z5 ho hb hg hat; refine hK.out _ _ ?_; clear hK K; refine nZ 29 ?_; refine last_ (i := 5) (N := none) #[true, true, true, true, true, true] rfl rfl (one_of HT_.out zq17) zq34 (fun K hK => ?_); refine skip_ (w1 := ?_) (by rfl) rfl ?_ ?_; rotate_left
   ·go_simp
    rfl
   refine hK.out _ _ ?_; clear hK K; refine done_ (done_of HT_.out zq17) ?_; have HY := Lib.hid (((Step.of_below (S := (fun b => OwnS (w.heap.size + 1 + 1 + 1 + 1) v b ∨ (b = w.heap.size + 1 ∨ b = w.heap.size + 1 + 1))) (HD6.out.trans (HB7.out.mono HD6.out.size))).trans (HZ4.out.wide (fun b => b = w.heap.size + 1 ∨ b = w.heap.size + 1 + 1)))); have HB7w := Lib.hid ((HBW.out.trans (HD6.out.mono HBW.out.size)).trans (HB7.out.mono (Nat.le_trans HBW.out.size HD6.out.size))); have hn4 : w.heap.size + 1 ≠ w.heap.size + 1 + 1 + 1 + 1 := by omega
   have hn5 : w.heap.size + 1 + 1 ≠ w.heap.size + 1 + 1 + 1 + 1 := by omega
   have hn3 : w.heap.size ≠ w.heap.size + 1 + 1 + 1 + 1 := by omega
   have HW4 := Lib.hid (Boxed.other HK4.out hn4 (.slice Az o2.length cz)); have HW5 := Lib.hid (Boxed.other HK5.out hn5 (.slice Az o2.length cz)); have HBF := Lib.hid (Below.setCell (HB7w.out.trans (grown_base HR7.out HG.out HB7w.out.size)) (p := ⟨w.heap.size + 1 + 1 + 1 + 1, 0, none⟩) (by show _ ≤ w.heap.size + 1 + 1 + 1 + 1; omega) (.slice Az o2.length cz)); have HYB := Lib.hid (show ∀ b, (fun b => OwnS (w.heap.size + 1 + 1 + 1 + 1) (.slice Az o2.length cz) b ∨ (b = w.heap.size + 1 ∨ b = w.heap.size + 1 + 1)) b → b < (w8.setCell ⟨w.heap.size + 1 + 1 + 1 + 1, 0, none⟩ (.slice Az o2.length cz)).heap.size from fun b hb => hb.elim (HZ5.out b) (fun hb => hb.elim (fun h => h.symm ▸ HW4.out.lt) (fun h => h.symm ▸ HW5.out.lt))); gi_wp2; exact ⟨_, HY.out, HYB.out, _, rfl, Boxed.other HK3.out hn3 _, HW4.out, HW5.out, HZ2.out, o2, HZ3.out, HBF.out, HL2.out, HH2.out⟩
  ·have be : (he == 0) = false := beq_eq_false_iff_ne.2 hee
   have HNE := Lib.hid hee; have HH2 := Lib.hid (show becR bb [] its = ([], he) by rw [HEE.out, HH.out, if_pos hee]); clear hee; have q4 := HQ4.out.cell; have f4 := HQ4.out.frozen; have HQ5' := Lib.hid (Boxed.other HQ5.out (B' := w.heap.size + 1) zq4 (.slice none 0 0)); have q5 := HQ5'.out.cell; have f5 := HQ5'.out.frozen; have HE1 := Lib.hid (((Step.of_below (S := (fun b => OwnS (w.heap.size + 1 + 1 + 1 + 1) v b ∨ (b = w.heap.size + 1 ∨ b = w.heap.size + 1 + 1))) HB6.out).trans (step_set (.inr (.inl rfl)) (.slice none 0 0))).trans (step_set (.inr (.inr rfl)) (.int .i64 he))); have HE14 := Lib.hid (Boxed.other (HQ4.out.set (.slice none 0 0)) (B' := w.heap.size + 1 + 1) zq4 (.int .i64 he)); have HE15 := Lib.hid (HQ5'.out.set (.int .i64 he)); have HE1W := Lib.hid (Below.setCell (Below.setCell (HBW.out.trans (HB6.out.mono HBW.out.size)) (p := ⟨w.heap.size + 1, 0, none⟩) zq61 (.slice none 0 0)) (p := ⟨w.heap.size + 1 + 1, 0, none⟩) zq52 (.int .i64 he)); gi_wp2; exact ⟨_, HE1.out, fun b hb => Nat.lt_of_lt_of_le (HSB.out b hb) HE1.out.size, rfl, he, HE14.out, HE15.out, HE1W.out, HH2.out, HNE.out⟩
 case done =>
  rintro D S W hD hSD hst hsb ⟨v, out, rfl, bx3, bx4, bx5, bx6, hRo, hBW, hout, hEE⟩ hK; obtain ⟨Av, cv, rfl⟩ := Kd.R_slice hRo; rw [List.drop_length] at hEE; have hEE2 : becR bb [] its = (out, 0) := hEE; have HBI2 := Lib.hid (fun r (h : NormIs out r) => HBI.out r (.inr ⟨by rw [hEE2], by rw [hEE2]; exact h⟩)); have hD4 : D ≠ w.heap.size + 1 := by have := HS2.out; omega
  have hD5 : D ≠ w.heap.size + 1 + 1 := by have := HS2.out; omega
  have HD := Lib.hid (show w.heap.size ≤ D by have := HS2.out; omega); have cl6 := bx6.cell; have HX4D := Lib.hid bx4; have HX5D := Lib.hid bx5; have HBWD := Lib.hid hBW; have HKD := Lib.hid hK; have NC := Lib.hid (NormE_calls Av cv out W (Kd.R_reads' hRo).2.2 (by have := HIL.out; omega)); clear hst hsb hSD bx3 bx4 bx5 bx6 hBW hEE hEE2 hRo hK; gi_wp2; refine ⟨trivial, ?_⟩; refine (callsIn_wide.2 NC.out).mono ?_; rintro e w7 ⟨vn, rn, hnorm, rfl, hRn, hb7⟩; obtain ⟨An, cn, rfl⟩ := Kd.R_slice hRn; have HRES := Lib.hid (HBI2.out rn hnorm); have bx4 := Boxed.below HX4D.out hb7; have bx5 := Boxed.below HX5D.out hb7; have hK7 : w7.heap[D]? = some (.deferred (some [])) := (hb7.block D (Array.getElem?_eq_some_iff.1 HKD.out).1).trans HKD.out; have hBW7 := HBWD.out.trans (hb7.mono HBWD.out.size); have hRo := Kd.R_lower hRn HBWD.out.size; have cl4 := bx4.cell; have fr4 := bx4.frozen; have HB4' := Lib.hid (Boxed.other (bx4.set (.slice An rn.1.length cn)) (B' := w.heap.size + 1 + 1) zq4 (.int .i64 rn.2)); have hb5 := Boxed.other bx5 (B' := w.heap.size + 1) zq4 (.slice An rn.1.length cn); have cl5 := hb5.cell; have fr5 := hb5.frozen; have HB5' := Lib.hid (hb5.set (.int .i64 rn.2)); have HK2 := Lib.hid (show ((w7.setCell ⟨w.heap.size + 1, 0, none⟩ (.slice An rn.1.length cn)).setCell ⟨w.heap.size + 1 + 1, 0, none⟩ (.int .i64 rn.2)).heap[D]? = some (.deferred (some [])) from ((Below.heap_setCell _ ⟨w.heap.size + 1 + 1, 0, none⟩ (.int .i64 rn.2) D hD5).trans (Below.heap_setCell w7 ⟨w.heap.size + 1, 0, none⟩ (.slice An rn.1.length cn) D hD4)).trans hK7); have HBY' := Lib.hid (Below.setCell (Below.setCell hBW7 (p := ⟨w.heap.size + 1, 0, none⟩) zq61 (.slice An rn.1.length cn)) (p := ⟨w.heap.size + 1 + 1, 0, none⟩) zq52 (.int .i64 rn.2)); have HRZ := Lib.hid ((Grow.R D tE w.heap.size (fun _ => True) (.slice An rn.1.length cn) rn.1).put (.deferred none) (Kd.R_set (Kd.R_set hRo bx4 zq34 0 (.slice An rn.1.length cn)) hb5 zq34 0 (.int .i64 rn.2)) (Nat.le_refl D) HK2.out rfl); clear bx4 bx5 hb5 hRo hRn hb7 hK7 hBW7 hnorm; gi_wp2; refine ⟨by simp, .inl ⟨_, _, rfl, run_takeDeferred HK2.out, ?_⟩⟩; exact ⟨_, results_c2 rfl _ _ _ rfl (Boxed.cell (put_boxed HB4'.out hD4.symm _)) (oneC_slice hu22) rfl (Boxed.cell (put_boxed HB5'.out hD5.symm _)) (oneC_int Tryz.underlying27), _, rn, HRES.out, rfl, HRZ.out, below_put (Nat.le_refl _) _ HBY'.out HD.out⟩
 case stop =>
  rintro D c S W hD hSD hst hsb ⟨rfl, e, bx4, bx5, hBW, hEE, hne⟩ hK; have HRES := Lib.hid (HBI.out ([], e) (.inl ⟨by rw [hEE]; exact hne, by rw [hEE]⟩)); have hD4 : D ≠ w.heap.size + 1 := by have := HS2.out; omega
  have hD5 : D ≠ w.heap.size + 1 + 1 := by have := HS2.out; omega
  have HD := Lib.hid (show w.heap.size ≤ D by have := HS2.out; omega); have HB4' := Lib.hid bx4; have HB5' := Lib.hid bx5; have HBY' := Lib.hid hBW; have HK2 := Lib.hid hK; clear hK bx4 bx5 hBW hEE hst hsb hSD hne; gi_wp2; refine ⟨by simp, .inl ⟨_, _, rfl, run_takeDeferred HK2.out, ?_⟩⟩; exact ⟨_, results_c2 rfl _ _ _ rfl (Boxed.cell (put_boxed HB4'.out hD4.symm _)) (oneC_slice hu22) rfl (Boxed.cell (put_boxed HB5'.out hD5.symm _)) (oneC_int Tryz.underlying27), _, [], e, HRES.out, rfl, Kd.R_nil _ _ _ _ _, below_put (Nat.le_refl _) _ HBY'.out HD.out⟩
abbrev EvF := List Op8 → List Vl → Int × Int × ByteArray × Int
def projR (ev : EvF) (r : List Vl) (out : List Vl) : List (List Op8) → List Vl × Int
 | [] => (out, 0)
 | x :: xs => if (ev x r).2.2.2 ≠ 0 then ([], (ev x r).2.2.2) else projR ev r (out ++ [⟨(ev x r).1, (ev x r).2.1, (ev x r).2.2.1⟩]) xs
theorem projR_drop (ev : EvF) (r out : List Vl) (xs : List (List Op8)) (k : Nat) (hk : k < xs.length) :
  projR ev r out (xs.drop k) = if (ev xs[k] r).2.2.2 ≠ 0 then ([], (ev xs[k] r).2.2.2) else projR ev r (out ++ [⟨(ev xs[k] r).1, (ev xs[k] r).2.1, (ev xs[k] r).2.2.1⟩]) (xs.drop (k + 1)) := by
 rw [List.drop_eq_getElem_cons hk, projR]
theorem proj1_calls (ev : EvF) (xs : List (List Op8)) (bx : Nat) (A : Option Addr) (c : Nat) (Ax : Option Addr) (cx : Nat) (r : List Vl) (w : World) (hbx : w.cell? ⟨bx, 0, none⟩ = some (.slice Ax xs.length cx)) (hxs : Kd.C (Kd.slice 68 kO) w Ax xs.length xs) (hxl : xs.length ≤ 8)
  (hr : Kd.C kV w A r.length r) (hc : r.length ≤ c) (hev : ∀ x ∈ xs, ∃ k, eval_Eval.f k x r = some (ev x r)) :
  Calls Tryz.prog 55 #[.slice A r.length c, .pointer (some ⟨bx, 0, none⟩)] w fun e w' => ∃ v, e = .returned (.tuple #[v, .int .i64 (projR ev r [] xs).2]) ∧ Kd.R kV tV w' w.heap.size (fun _ => True) v (projR ev r [] xs).1 ∧ Below w.heap.size w w' := by
 obtain ⟨i0, hi0, hz0, hz1, hz2⟩ := info_parts info65; have hu39 : Tryz.prog.underlying 39 = some (.slice 65) := by kernel_rfl
 have HXS := Lib.hid hxs; have HXL := Lib.hid hxl; have EC := Lib.hid (fun (x : List Op8) (hx : x ∈ xs) (A' : Option Addr) (c' : Nat) (w1 : World) (h : Below w.heap.size w w1) (hC : Kd.C kO w1 A' x.length x) (hc' : x.length ≤ c') => (show Calls Tryz.prog 56 #[.slice A' x.length c', .slice A r.length c] w1 fun e w' => e = .returned (.tuple #[.agg #[.int .i64 (ev x r).1, .int .i64 (ev x r).2.1, .string (ev x r).2.2.1], .int .i64 (ev x r).2.2.2]) ∧ Below w1.heap.size w1 w' from (hev x hx).elim fun k hk => eval_Eval.calls k A' c' x A c r _ _ _ _ w1 hC hc' (Kd.C_below hr h) hc hk)); obtain ⟨o, ho⟩ : ∃ o, projR ev r [] xs = o := ⟨_, rfl⟩
 rw [ho]; clear hxs hr hc hev; go_enter Tryz.func55, Tryz.ntmps55
 go_wp2_with (at_make; (refine wpList_make_own _ rfl _ _ _ rfl w.heap.size 65 i0 _ 3 hu39 hi0 hz0 hz1 _ _ _ xs.length rfl rfl rfl ?b1 ?b2 ?b3 ?_))
 case b1 => have := HXL.out; rw [hz2]; omega
 case b2 => have := HXL.out; unfold maxLen; omega
 case b3 => exact Nat.le_refl _
 intro w1 hown hgrow; have HO := Lib.hid (show Kd.R kV 65 w1 w.heap.size (fun _ => True) (.slice (some ⟨w.heap.size, 0, none⟩) 0 xs.length) [] from ⟨fun _ _ => trivial, [], hown, Reps.none _ _⟩); have HB1 := Lib.hid (show Below w.heap.size w w1 from ⟨hgrow.os, hgrow.tape, hgrow.output, hgrow.size, fun b hb => hgrow.block b hb (fun h => by cases h)⟩); have bx1 := pw_cell_below HB1.out hbx; clear hown hgrow; go_wp2
 go_loopw [5, 15] (fun v5 v15 wr => ∃ (i : Nat) (out : List Vl), i ≤ xs.length ∧ v15 = .int .i64 (i : Int) ∧ Aside0 (out.length = i) ∧ Aside0 (o = projR ev r out (xs.drop i)) ∧ Aside0 (Kd.R kV tV wr w.heap.size (fun _ => True) v5 out) ∧ Aside0 (Below w.heap.size w wr)) (fun v5 v15 wr => xs.length - (intOf v15).toNat)
 case atStart => exact ⟨0, [], Nat.zero_le _, rfl, ⟨rfl⟩, ⟨by rw [List.drop_zero]; exact ho.symm⟩, ⟨HO.out⟩, ⟨HB1.out⟩⟩
 case round =>
  obtain ⟨i, out, hi, rfl, HLO, HEQ, HRO, HBr⟩ := hrel; clear ho
  by_cases hil : i < xs.length
  ·obtain ⟨X, hX⟩ : ∃ X, xs[i] = X := ⟨_, rfl⟩
   obtain ⟨ad, Ay, cy, e1, x0, x1, x2⟩ := at_L7 (Kd.C_below HXS.out HBr.out) (i : Int) zq4 zq4; have hrd : rd_L7 xs (i : Int) = X := by
    unfold rd_L7; rw [Int.toNat_natCast, List.getD_eq_getElem?_getD, List.getElem?_eq_getElem hil]; exact hX
   rw [Int.toNat_natCast, hrd] at x0; rw [hrd] at x1 x2; clear hrd; cases e1; have HP := Lib.hid (projR_drop ev r out xs i hil); rw [hX] at HP; have E1 := Lib.hid (EC.out X (by rw [← hX]; exact List.getElem_mem hil) Ay cy wr HBr.out x2 x1); have p171 := eq_true (show (0 : Int) ≤ (i : Int) by omega); have q171 := eq_true (show (i : Int) < (xs.length : Int) by omega); clear hX x1 x2; obtain ⟨⟨va, vb, vc, ve⟩, hev⟩ : ∃ z, ev X r = z := ⟨_, rfl⟩
   rw [hev] at HP E1; clear hev
   by_cases he : ve = 0
   ·have be : (ve == 0) = true := by rw [he]; rfl
    have HP2 := Lib.hid (show o = projR ev r (out ++ [⟨va, vb, vc⟩]) (xs.drop (i + 1)) by rw [HEQ.out, HP.out, if_neg (by simp [he])]); clear he
    go_wp2_with (first
     | (go_at_call 56; (with_reducible refine E1.out.mono ?_); rintro e w4 ⟨rfl, hb4⟩; have HB4 := Lib.hid hb4; have a0 := (blk_cell (blk_new w4 (.cells #[.int .i64 va, .int .i64 vb, .string vc] 65 (0, 0))) 0).trans (show _ = some (Value.int .i64 va) from rfl); have a1 := (blk_cell (blk_new w4 (.cells #[.int .i64 va, .int .i64 vb, .string vc] 65 (0, 0))) 1).trans (show _ = some (Value.int .i64 vb) from rfl); have a2 := (blk_cell (blk_new w4 (.cells #[.int .i64 va, .int .i64 vb, .string vc] 65 (0, 0))) 2).trans (show _ = some (Value.string vc) from rfl); have HBA := Lib.hid (below_alloc hb4 (.cells #[.int .i64 va, .int .i64 vb, .string vc] 65 (0, 0))); clear hb4)
     | (at_builtin; (refine Kd.R_append kV (w0 := w) w.heap.size rfl _ _ 39 65 (.agg #[(.int .i64 0), (.int .i64 0), (.string ⟨#[]⟩)]) 32 rfl hu39 info65 rfl zq34 zq4 u5 out ⟨va, vb, vc⟩ [.int .i64 va, .int .i64 vb, .string vc] (fun _ => True) (fun _ => False) rfl (by first | rfl | (rw [World.size_alloc]; rfl)) ?aP (fun _ h => h.elim) (fun _ _ => trivial) ?aO ?aB ?aS ?aL ?_)))
    case aP => exact k65_mkM _ _ _ ⟨va, vb, vc⟩
    case aO => exact Kd.R_below HRO.out HBA.out
    case aB => exact HBr.out.trans (HBA.out.mono HBr.out.size)
    case aS => exact Nat.le_trans HBr.out.size HBA.out.size
    case aL => have := HLO.out; have := HXL.out; omega
    intro v1 w6 ho hb hg hat; have HO6 := Lib.hid ho; have HB6 := Lib.hid hb; clear ho hb hg hat; go_wp2; go_roundw
    case rel => exact ⟨i + 1, out ++ [⟨va, vb, vc⟩], by omega, by go_num, ⟨by rw [List.length_append, HLO.out]; rfl⟩, ⟨HP2.out⟩, ⟨HO6.out⟩, ⟨HB6.out⟩⟩
    case measure => simp [intOf]; omega
   ·have be : (ve == 0) = false := beq_eq_false_iff_ne.2 he
    have h := show o = ([], ve) by rw [HEQ.out, HP.out, if_pos he]
    clear he HEQ; subst h
    go_wp2_with (go_at_call 56; (with_reducible refine E1.out.mono ?_); rintro e w4 ⟨rfl, hb4⟩; have HB4 := Lib.hid (HBr.out.trans (hb4.mono HBr.out.size)); clear hb4)
    go_ret2; exact ⟨_, rfl, Kd.R_nil _ _ _ _ _, (by first | exact HB4.out | exact below_alloc HB4.out _)⟩
  ·obtain rfl : i = xs.length := by omega
   have h := show o = (out, 0) by rw [HEQ.out, List.drop_length]; rfl
   clear HEQ; subst h; go_wp2; go_ret2; exact ⟨_, rfl, HRO.out, HBr.out⟩
def formAll (ef : List Op8 → Int) : List (List Op8) → Int
 | [] => 0
 | x :: xs => if ef x ≠ 0 then ef x else formAll ef xs
theorem formAll_drop (ef : List Op8 → Int) (xs : List (List Op8)) (k : Nat) (hk : k < xs.length) : formAll ef (xs.drop k) = if ef xs[k] ≠ 0 then ef xs[k] else formAll ef (xs.drop (k + 1)) := by
 rw [List.drop_eq_getElem_cons hk, formAll]
def ProjIs (ev : EvF) (ef : List Op8 → Int) (xs : List (List Op8)) (l : List EdP) (r : List EdP × Int) : Prop :=
 (mayE l = false ∧ r = ([], 2)) ∨ (mayE l = true ∧ 8 < xs.length ∧ r = ([], 6)) ∨ (mayE l = true ∧ xs.length ≤ 8 ∧ formAll ef xs ≠ 0 ∧ r = ([], formAll ef xs)) ∨
  (mayE l = true ∧ xs.length ≤ 8 ∧ formAll ef xs = 0 ∧ BecIs (fun row => projR ev row [] xs) l r)
theorem Project_calls (ev : EvF) (ef : List Op8 → Int) (A0 : Option Addr) (c0 : Nat) (l : List EdP) (A1 : Option Addr) (c1 : Nat) (xs : List (List Op8)) (w : World) (hr0 : Kd.C kE w A0 l.length l) (hrow : ∀ e ∈ l, e.f0.length ≤ 4398046511104)
  (hr1 : Kd.C (Kd.slice 68 kO) w A1 xs.length xs) (hfk : ∀ x ∈ xs, ∃ k, expr_Form.f k x = some (ef x)) (hev : mayE l = true → formAll ef xs = 0 → ∀ x ∈ xs, ∀ e ∈ l, ∃ k, eval_Eval.f k x e.f0 = some (ev x e.f0)) :
  Calls Tryz.prog 21 #[.slice A0 l.length c0, .slice A1 xs.length c1] w fun e w' => ∃ v r, ProjIs ev ef xs l r ∧ e = .returned (.tuple #[v, .int .i64 r.2]) ∧ Kd.R kE tE w' w.heap.size (fun _ => True) v r.1 ∧ Below w.heap.size w w' := by
 have hmf : ∀ (fn : Fn) (first cap : Array Value) (w : World), (Instr.makeFunc fn first cap).run Tryz.prog w = .ok (.func fn first cap) w := fun _ _ _ _ => rfl
 have MC := Lib.hid (fun (w1 : World) (h : Below w.heap.size w w1) => May_calls A0 c0 l w1 (Kd.C_below hr0 h) hrow); have FC := Lib.hid (fun (x : List Op8) (hx : x ∈ xs) (A' : Option Addr) (c' : Nat) (w1 : World) (hC : Kd.C kO w1 A' x.length x) (hc' : x.length ≤ c') => (show Calls Tryz.prog 47 #[.slice A' x.length c'] w1 fun e w' => e = .returned (.int .i64 (ef x)) ∧ Below w1.heap.size w1 w' from (hfk x hx).elim fun k hk => expr_Form.calls k A' c' x (ef x) w1 hC hc' hk)); have HR := Lib.hid hr0; have HR1 := Lib.hid hr1; have HRW := Lib.hid hrow; have HEV := Lib.hid hev; have HBA := Lib.hid (below_alloc (Below.refl _ w) (.cells #[.slice A1 xs.length c1] 32 (0, 0))); have HBX := Lib.hid (show Boxed (w.alloc (.cells #[.slice A1 xs.length c1] 32 (0, 0))) w.heap.size 32 (.slice A1 xs.length c1) from blk_new w _); clear hr0 hrow hr1 hfk hev; obtain ⟨m, hm⟩ : ∃ m, mayE l = m := ⟨_, rfl⟩
 rw [hm] at MC; cases m with
 | false =>
  have HRES := Lib.hid (show ProjIs ev ef xs l ([], 2) from .inl ⟨hm, rfl⟩); clear hm; go_enter Tryz.func21, Tryz.ntmps21
  go_wp2_with ((with_reducible refine (MC.out _ HBA.out).mono ?_); rintro e w1 ⟨rfl, hb1⟩; have HB1 := Lib.hid (HBA.out.trans (hb1.mono HBA.out.size)); clear hb1)
  go_ret2; exact ⟨_, ([], 2), HRES.out, rfl, Kd.R_nil _ _ _ _ _, HB1.out⟩
 | true =>
  by_cases hx8 : xs.length ≤ 8
  ·have b8 : decide ((xs.length : Int) > 8) = false := decide_eq_false zq4
   have HM := Lib.hid hm; have HX8 := Lib.hid hx8; clear hm hx8; go_enter Tryz.func21, Tryz.ntmps21
   go_wp2_with ((with_reducible refine (MC.out _ HBA.out).mono ?_); rintro e w1 ⟨rfl, hb1⟩; have HB1 := Lib.hid (HBA.out.trans (hb1.mono HBA.out.size)); have HBX1 := Lib.hid (Boxed.below HBX.out hb1); have cl3 := HBX1.out.cell; clear hb1)
   go_loopw [19] (fun v19 wr => ∃ (i : Nat), i ≤ xs.length ∧ v19 = .int .i64 (i : Int) ∧ Aside0 (formAll ef xs = formAll ef (xs.drop i)) ∧ Aside0 (Below w1.heap.size w1 wr)) (fun v19 wr => xs.length - (intOf v19).toNat)
   case atStart => exact ⟨0, Nat.zero_le _, rfl, ⟨by rw [List.drop_zero]⟩, ⟨Below.refl _ _⟩⟩
   case round =>
    obtain ⟨i, hi, rfl, HEQ, HBr⟩ := hrel; have HBw := Lib.hid (HB1.out.trans (HBr.out.mono HB1.out.size)); have hx9 := HX8.out
    by_cases hil : i < xs.length
    ·obtain ⟨X, hX⟩ : ∃ X, xs[i] = X := ⟨_, rfl⟩
     obtain ⟨ad, Ay, cy, e1, x0, x1, x2⟩ := at_L7 (Kd.C_below HR1.out HBw.out) (i : Int) zq4 zq4; have hrd : rd_L7 xs (i : Int) = X := by
      unfold rd_L7; rw [Int.toNat_natCast, List.getD_eq_getElem?_getD, List.getElem?_eq_getElem hil]; exact hX
     rw [Int.toNat_natCast, hrd] at x0; rw [hrd] at x1 x2; clear hrd; cases e1; have HP := Lib.hid (formAll_drop ef xs i hil); rw [hX] at HP; have E1 := Lib.hid (FC.out X (by rw [← hX]; exact List.getElem_mem hil) Ay cy wr x2 x1); have p171 := eq_true (show (0 : Int) ≤ (i : Int) by omega); have q171 := eq_true (show (i : Int) < (xs.length : Int) by omega); clear hX x1 x2; obtain ⟨fe, hfe⟩ : ∃ z, ef X = z := ⟨_, rfl⟩
     rw [hfe] at HP E1; clear hfe
     by_cases he : fe = 0
     ·have be : (fe == 0) = true := by rw [he]; rfl
      have HP2 := Lib.hid (show formAll ef xs = formAll ef (xs.drop (i + 1)) by rw [HEQ.out, HP.out, if_neg (by simp [he])]); clear he
      go_wp2_with ((with_reducible refine E1.out.mono ?_); rintro e w4 ⟨rfl, hb4⟩; have HB4 := Lib.hid (HBr.out.trans (hb4.mono HBr.out.size)); clear hb4)
      go_roundw
      case rel => exact ⟨i + 1, by omega, by go_num, ⟨HP2.out⟩, ⟨HB4.out⟩⟩
      case measure => simp [intOf]; omega
     ·have be : (fe == 0) = false := beq_eq_false_iff_ne.2 he
      have hff : formAll ef xs = fe := by rw [HEQ.out, HP.out, if_pos he]
      have HRES := Lib.hid (show ProjIs ev ef xs l ([], fe) from .inr (.inr (.inl ⟨HM.out, HX8.out, by rw [hff]; exact he, by rw [hff]⟩))); clear he hff
      go_wp2_with ((with_reducible refine E1.out.mono ?_); rintro e w4 ⟨rfl, hb4⟩; have HB4 := Lib.hid (HBw.out.trans (hb4.mono HBw.out.size)); clear hb4)
      go_ret2; exact ⟨_, ([], fe), HRES.out, rfl, Kd.R_nil _ _ _ _ _, HB4.out⟩
    ·obtain rfl : i = xs.length := by omega
     have hf0 : formAll ef xs = 0 := by rw [HEQ.out, List.drop_length]; rfl
     have HF0 := Lib.hid hf0; have HBXr := Lib.hid (Boxed.below HBX1.out HBr.out); have BC := Lib.hid (become_calls (fun row => projR ev row [] xs) 55 #[.pointer (some ⟨w.heap.size, 0, none⟩)] A0 c0 l wr (Kd.C_below HR.out HBw.out) HM.out HRW.out (enters_of Tryz.func55 zq17 rfl)
      (fun e0 he0 A c W1 hb hR => (proj1_calls ev xs w.heap.size A c A1 c1 e0.f0 W1 ((Boxed.below HBXr.out hb).cell) (Kd.C_below HR1.out (HBw.out.trans (hb.mono HBw.out.size))) HX8.out (Kd.R_reads' hR).2.2 (Kd.R_reads' hR).2.1 (fun x hx => HEV.out HM.out HF0.out x hx e0 he0)).mono fun e w' ⟨v, h1, h2, h3⟩ => ⟨v, h1, Kd.R_lower h2 (Nat.zero_le _), h3⟩))
     clear hf0 HEQ
     go_wp2_with ((with_reducible refine BC.out.mono ?_); rintro e w6 ⟨v6, r6, hbec, rfl, hR6, hb6⟩; have HRES := Lib.hid (show ProjIs ev ef xs l r6 from .inr (.inr (.inr ⟨HM.out, HX8.out, HF0.out, hbec⟩))); have HR6 := Lib.hid hR6; have HB6 := Lib.hid (HBw.out.trans (hb6.mono HBw.out.size)); have HSZ := Lib.hid HBw.out.size; clear hR6 hb6 hbec)
     go_ret2; exact ⟨v6, r6, HRES.out, rfl, Kd.R_lower HR6.out HSZ.out, HB6.out⟩
  ·have b8 : decide ((xs.length : Int) > 8) = true := decide_eq_true zq4
   have HRES := Lib.hid (show ProjIs ev ef xs l ([], 6) from .inr (.inl ⟨hm, by omega, rfl⟩)); clear hm hx8; go_enter Tryz.func21, Tryz.ntmps21
   go_wp2_with ((with_reducible refine (MC.out _ HBA.out).mono ?_); rintro e w1 ⟨rfl, hb1⟩; have HB1 := Lib.hid (HBA.out.trans (hb1.mono HBA.out.size)); have cl3 := (Boxed.below HBX.out hb1).cell; clear hb1)
   go_ret2; exact ⟨_, ([], 6), HRES.out, rfl, Kd.R_nil _ _ _ _ _, HB1.out⟩
end Go.Proofs.YtmkgecapkeojaaaGreat.Eg
end
section
namespace Go.Proofs.YtmkgecapkeojaaaGreat.Eg
open Go.Proofs.YtmkgecapkeojaaaGreat Go.Proofs.YtmkgecapkeojaaaGreat.PDa
open Go.RowKit Go.Proofs.YtmkgecapkeojaaaGreatW.PrintWords Go.Proofs.YtmkgecapkeojaaaGreat.Stp Go.Proofs.YtmkgecapkeojaaaGreat.Rw Go.Proofs.YtmkgecapkeojaaaGreat.Cmp
instance decRow : DecidableEq (List Vl) := fun a b => decidable_of_iff (eqR a b = true) (eqR_iff a b)
theorem canonJ_perm {f g : List Jp} (h : f.Perm g) : canonJ f = canonJ g := by
 unfold canonJ
 congr 1
 refine Canon.canon_congr ltI_ord fun k => Canon.J_perm k ?_
 exact (h.map pJ).filter _
theorem normJ_perm {f g : List Jp} (h : f.Perm g) : normJ f = normJ g := by
 unfold normJ; rw [h.any_eq, h.any_eq]; rw [canonJ_perm h]
def rowIns (r : List Vl) : List (List Vl) → List (List Vl)
 | [] => [r]
 | x :: xs => if rC x r < 0 then x :: rowIns r xs else if x = r then x :: xs else r :: x :: xs
def rowsOf (l : List EdP) : List (List Vl) := (l.map (·.f0)).foldr rowIns []
theorem rowIns_mem (r : List Vl) : ∀ (l : List (List Vl)) (z : List Vl), z ∈ rowIns r l ↔ z = r ∨ z ∈ l
 | [], z => by simp [rowIns]
 | x :: xs, z => by
  rw [rowIns]
  split
  ·rw [List.mem_cons, rowIns_mem r xs z, List.mem_cons]
   constructor
   ·rintro (h | h | h)
    ·exact .inr (.inl h)
    ·exact .inl h
    ·exact .inr (.inr h)
   ·rintro (h | h | h)
    ·exact .inr (.inl h)
    ·exact .inl h
    ·exact .inr (.inr h)
  ·split
   ·rename_i h
    rw [← h, List.mem_cons]
    constructor
    ·exact fun h => .inr h
    ·rintro (h | h)
     ·exact .inl h
     ·exact h
   ·rw [List.mem_cons]
abbrev Inc (l : List (List Vl)) : Prop := l.Pairwise fun a b => rC a b < 0
theorem rowIns_inc (r : List Vl) : ∀ (l : List (List Vl)), Inc l → Inc (rowIns r l)
 | [], _ => by simp [rowIns, Inc]
 | x :: xs, h => by
  have h1 := List.pairwise_cons.1 h; rw [rowIns]
  split
  ·rename_i hx
   refine List.pairwise_cons.2 ⟨fun z hz => ?_, rowIns_inc r xs h1.2⟩
   rcases (rowIns_mem r xs z).1 hz with e | e
   ·rw [e]; exact hx
   ·exact h1.1 z e
  ·split
   ·exact h
   ·rename_i hx hne
    have hlt : rC r x < 0 := by
     have a1 := rC_is.anti r x; have a2 := rC_is.zero x r
     by_cases e : rC x r = 0
     ·exact absurd (a2.1 e) hne
     ·exact a1.2 (by omega)
    refine List.pairwise_cons.2 ⟨fun z hz => ?_, h⟩
    rcases List.mem_cons.1 hz with e | e
    ·rw [e]; exact hlt
    ·exact rC_is.trans _ _ _ hlt (h1.1 z e)
theorem rowsOf_mem (l : List EdP) (z : List Vl) : z ∈ rowsOf l ↔ ∃ e ∈ l, e.f0 = z := by
 unfold rowsOf
 induction l with
 | nil => simp
 | cons e es ih =>
  rw [List.map_cons, List.foldr_cons, rowIns_mem, ih]
  constructor
  ·rintro (h | ⟨e', he, h⟩)
   ·exact ⟨e, List.mem_cons_self, h.symm⟩
   ·exact ⟨e', List.mem_cons_of_mem _ he, h⟩
  ·rintro ⟨e', he, h⟩
   rcases List.mem_cons.1 he with rfl | he
   ·exact .inl h.symm
   ·exact .inr ⟨e', he, h⟩
theorem rowsOf_inc (l : List EdP) : Inc (rowsOf l) := by
 unfold rowsOf
 induction l with
 | nil => exact List.Pairwise.nil
 | cons e es ih => rw [List.map_cons, List.foldr_cons]; exact rowIns_inc _ _ ih
theorem inc_uniq : ∀ (a b : List (List Vl)), Inc a → Inc b → (∀ z, z ∈ a ↔ z ∈ b) → a = b
 | [], [], _, _, _ => rfl
 | [], y :: ys, _, _, h => by have := (h y).2 List.mem_cons_self; cases this
 | x :: xs, [], _, _, h => by have := (h x).1 List.mem_cons_self; cases this
 | x :: xs, y :: ys, ha, hb, h => by
  have a1 := List.pairwise_cons.1 ha; have b1 := List.pairwise_cons.1 hb; have irr : ∀ z : List Vl, ¬ rC z z < 0 := fun z hz => by rw [rC_is.self] at hz; omega
  have hxy : x = y := by
   rcases List.mem_cons.1 ((h x).1 List.mem_cons_self) with e | e
   ·exact e
   ·rcases List.mem_cons.1 ((h y).2 List.mem_cons_self) with e2 | e2
    ·exact e2.symm
    ·exact absurd (rC_is.trans _ _ _ (b1.1 x e) (a1.1 y e2)) (irr y)
  subst hxy
  congr 1
  refine inc_uniq xs ys a1.2 b1.2 fun z => ?_
  constructor
  ·intro hz
   rcases List.mem_cons.1 ((h z).1 (List.mem_cons_of_mem _ hz)) with e | e
   ·subst e; exact absurd (a1.1 z hz) (irr z)
   ·exact e
  ·intro hz
   rcases List.mem_cons.1 ((h z).2 (List.mem_cons_of_mem _ hz)) with e | e
   ·subst e; exact absurd (b1.1 z hz) (irr z)
   ·exact e
theorem rowsOf_perm {a b : List EdP} (h : a.Perm b) : rowsOf a = rowsOf b :=
 inc_uniq _ _ (rowsOf_inc a) (rowsOf_inc b) fun z => by
  rw [rowsOf_mem, rowsOf_mem]; exact ⟨fun ⟨e, he, hz⟩ => ⟨e, h.mem_iff.1 he, hz⟩, fun ⟨e, he, hz⟩ => ⟨e, h.mem_iff.2 he, hz⟩⟩
theorem jumpsOf_perm {a b : List EdP} (h : a.Perm b) (r : List Vl) : (jumpsOf a r).Perm (jumpsOf b r) := (h.filter _).map _
theorem jumpsOf_cons (e : EdP) (es : List EdP) (r : List Vl) : jumpsOf (e :: es) r = (if e.f0 = r then [jmpE e] else []) ++ jumpsOf es r := by
 unfold jumpsOf; rw [List.filter_cons]
 by_cases h : e.f0 = r
 ·rw [if_pos ((eqR_iff _ _).2 h), if_pos h]; rfl
 ·rw [if_neg (fun h2 => h ((eqR_iff _ _).1 h2)), if_neg h]; rfl
theorem jumpsOf_none (es : List EdP) (r : List Vl) (h : ∀ e ∈ es, e.f0 ≠ r) : jumpsOf es r = [] := by
 unfold jumpsOf; rw [List.map_eq_nil_iff, List.filter_eq_nil_iff]; exact fun e he h2 => h e he ((eqR_iff _ _).1 h2)
theorem runAt_groups : ∀ (es : List EdP) (r : List Vl) (js : List Jp), es.Pairwise (fun a b => rC a.f0 b.f0 ≤ 0) → (∀ e ∈ es, rC r e.f0 ≤ 0) →
  Inc ((runAt r js es).map (·.1)) ∧ (∀ x ∈ runAt r js es, rC r x.1 ≤ 0 ∧ x.2 = (if x.1 = r then js else []) ++ jumpsOf es x.1) ∧ (∀ z, z ∈ (runAt r js es).map (·.1) ↔ z = r ∨ ∃ e ∈ es, e.f0 = z)
 | [], r, js, _, _ => by
  refine ⟨by simp [runAt, Inc], fun x hx => ?_, fun z => by simp [runAt]⟩; rw [runAt, List.mem_singleton] at hx; subst hx; exact ⟨by rw [rC_is.self]; omega, by simp [jumpsOf]⟩
 | e :: es, r, js, hp, hr => by
  have h1 := List.pairwise_cons.1 hp; rw [runAt]
  by_cases he : e.f0 = r
  ·rw [if_pos ((eqR_iff _ _).2 he)]
   obtain ⟨i1, i2, i3⟩ := runAt_groups es r (js ++ [jmpE e]) h1.2 (fun z hz => hr z (List.mem_cons_of_mem _ hz)); refine ⟨i1, fun x hx => ⟨(i2 x hx).1, ?_⟩, fun z => ?_⟩
   ·rw [(i2 x hx).2, jumpsOf_cons, he]
    by_cases hxr : x.1 = r
    ·rw [if_pos hxr, if_pos hxr, if_pos hxr.symm, List.append_assoc]
    ·rw [if_neg hxr, if_neg hxr, if_neg (fun h => hxr h.symm)]; simp only [List.nil_append]
   ·rw [i3]
    constructor
    ·rintro (h | ⟨e', h2, h3⟩)
     ·exact .inl h
     ·exact .inr ⟨e', List.mem_cons_of_mem _ h2, h3⟩
    ·rintro (h | ⟨e', h2, h3⟩)
     ·exact .inl h
     ·rcases List.mem_cons.1 h2 with rfl | h2
      ·exact .inl (by rw [← h3, he])
      ·exact .inr ⟨e', h2, h3⟩
  ·rw [if_neg (fun h => he ((eqR_iff _ _).1 h))]
   have hlt : rC r e.f0 < 0 := by
    have h2 := hr e List.mem_cons_self; have h3 := rC_is.zero r e.f0
    by_cases h4 : rC r e.f0 = 0
    ·exact absurd (h3.1 h4).symm he
    ·omega
   have hle : ∀ z, rC e.f0 z ≤ 0 → rC r z < 0 := fun z hz => by
    by_cases h5 : rC e.f0 z = 0
    ·rw [← (rC_is.zero _ _).1 h5]; exact hlt
    ·exact rC_is.trans _ _ _ hlt (by omega)
   have hne : ∀ z, rC e.f0 z ≤ 0 → z ≠ r := fun z hz h6 => by
    have := hle z hz; rw [h6, rC_is.self] at this; omega
   obtain ⟨i1, i2, i3⟩ := runAt_groups es e.f0 [jmpE e] h1.2 h1.1; have hje : jumpsOf (e :: es) r = [] := jumpsOf_none _ _ fun z hz => by
    rcases List.mem_cons.1 hz with rfl | hz
    ·exact he
    ·exact hne _ (h1.1 z hz)
   refine ⟨?_, fun x hx => ?_, fun z => ?_⟩
   ·rw [List.map_cons]
    refine List.pairwise_cons.2 ⟨fun z hz => ?_, i1⟩; obtain ⟨x, hx, rfl⟩ := List.mem_map.1 hz; exact hle _ (i2 x hx).1
   ·rcases List.mem_cons.1 hx with rfl | hx
    ·exact ⟨by rw [rC_is.self]; omega, by rw [if_pos rfl, hje, List.append_nil]⟩
    ·have h7 := i2 x hx
     refine ⟨by have := hle _ h7.1; omega, ?_⟩; rw [if_neg (hne _ h7.1), List.nil_append, jumpsOf_cons, h7.2]
     by_cases h8 : x.1 = e.f0
     ·rw [if_pos h8, if_pos h8.symm]
     ·rw [if_neg h8, if_neg (fun h => h8 h.symm)]
   ·rw [List.map_cons, List.mem_cons, i3]
    constructor
    ·rintro (h | h | ⟨e', h2, h3⟩)
     ·exact .inl h
     ·exact .inr ⟨e, List.mem_cons_self, h.symm⟩
     ·exact .inr ⟨e', List.mem_cons_of_mem _ h2, h3⟩
    ·rintro (h | ⟨e', h2, h3⟩)
     ·exact .inl h
     ·rcases List.mem_cons.1 h2 with rfl | h2
      ·exact .inr (.inl h3.symm)
      ·exact .inr (.inr ⟨e', h2, h3⟩)
def groups (l : List EdP) : List (List Vl × List Jp) := (rowsOf l).map fun r => (r, jumpsOf l r)
theorem runs_groups (s : List EdP) (h : s.Pairwise (fun a b => rC a.f0 b.f0 ≤ 0)) : runsP s = groups s := by
 cases s with
 | nil => rfl
 | cons e es =>
  have h1 := List.pairwise_cons.1 h; obtain ⟨i1, i2, i3⟩ := runAt_groups es e.f0 [jmpE e] h1.2 h1.1; have hrows : (runsP (e :: es)).map (·.1) = rowsOf (e :: es) := by
   refine inc_uniq _ _ i1 (rowsOf_inc _) fun z => ?_
   rw [runsP, i3, rowsOf_mem]
   constructor
   ·rintro (h | ⟨e', h2, h3⟩)
    ·exact ⟨e, List.mem_cons_self, h.symm⟩
    ·exact ⟨e', List.mem_cons_of_mem _ h2, h3⟩
   ·rintro ⟨e', h2, h3⟩
    rcases List.mem_cons.1 h2 with rfl | h2
    ·exact .inl h3.symm
    ·exact .inr ⟨e', h2, h3⟩
  unfold groups; rw [← hrows, List.map_map]; refine (List.map_id _).symm.trans (List.map_congr_left fun x hx => ?_); rw [runsP] at hx; have h7 := (i2 x hx).2; refine Prod.ext rfl ?_
  show x.2 = jumpsOf (e :: es) x.1
  rw [h7, jumpsOf_cons]
  by_cases h8 : x.1 = e.f0
  ·rw [if_pos h8, if_pos h8.symm]
  ·rw [if_neg h8, if_neg (fun h => h8 h.symm)]
theorem mapR_perm (a b : List EdP) (h : a.Perm b) : ∀ (rows : List (List Vl)) (out : List EdP), mapR normJ out (rows.map fun r => (r, jumpsOf a r)) = mapR normJ out (rows.map fun r => (r, jumpsOf b r))
 | [], _ => rfl
 | r :: rows, out => by
  rw [List.map_cons, List.map_cons, mapR, mapR]; simp only; rw [normJ_perm (jumpsOf_perm h r)]
  split
  ·rfl
  ·split
   ·rfl
   ·exact mapR_perm a b h rows _
def normV (l : List EdP) : List EdP × Int := if l.any argE = true then ([], 2) else if l.any (fun x => timeB x.f1) = true then ([], 13) else mapR normJ [] (groups l)
theorem sortedE_rows {s : List EdP} (h : SortedE s) : s.Pairwise (fun a b => rC a.f0 b.f0 ≤ 0) := by
 refine h.imp fun {a b} hk => ?_
 have h1 := keyC_is.not_lt.1 hk; unfold keyC pairC keyE at h1; simp only at h1
 split at h1
 ·rename_i e; omega
 ·exact h1
theorem norm_is {l : List EdP} {r : List EdP × Int} (h : NormIs l r) : r = normV l := by
 unfold normV
 rcases h with ⟨h1, h2⟩ | ⟨h1, h2, h3⟩ | ⟨h1, h2, s, hp, hs, h3⟩
 ·rw [if_pos h1, h2]
 ·rw [if_neg (by rw [h1]; decide), if_pos h2, h3]
 ·rw [if_neg (by rw [h1]; decide), if_neg (by rw [h2]; decide), h3]
  unfold mapP; rw [runs_groups s (sortedE_rows hs)]; unfold groups; rw [rowsOf_perm hp]; exact mapR_perm s l hp _ _
def becV (bb : List Vl → List Vl × Int) (l : List EdP) : List EdP × Int := if (becR bb [] (runsP l)).2 ≠ 0 then ([], (becR bb [] (runsP l)).2) else normV (becR bb [] (runsP l)).1
theorem bec_is {bb : List Vl → List Vl × Int} {l : List EdP} {r : List EdP × Int} (h : BecIs bb l r) : r = becV bb l := by
 unfold becV
 rcases h with ⟨h1, h2⟩ | ⟨h1, h2⟩
 ·rw [if_pos h1, h2]
 ·rw [if_neg (fun h => h h1)]; exact norm_is h2
def projV (ev : EvF) (ef : List Op8 → Int) (xs : List (List Op8)) (l : List EdP) : List EdP × Int :=
 if mayE l = true then (if 8 < xs.length then ([], 6) else if formAll ef xs ≠ 0 then ([], formAll ef xs) else becV (fun row => projR ev row [] xs) l) else ([], 2)
theorem proj_is {ev : EvF} {ef : List Op8 → Int} {xs : List (List Op8)} {l : List EdP} {r : List EdP × Int} (h : ProjIs ev ef xs l r) : r = projV ev ef xs l := by
 unfold projV
 rcases h with ⟨h1, h2⟩ | ⟨h1, h2, h3⟩ | ⟨h1, h2, h3, h4⟩ | ⟨h1, h2, h3, h4⟩
 ·rw [if_neg (by rw [h1]; decide), h2]
 ·rw [if_pos h1, if_pos h2, h3]
 ·rw [if_pos h1, if_neg (by omega), if_pos h3, h4]
 ·rw [if_pos h1, if_neg (by omega), if_neg (fun h => h h3)]; exact bec_is h4
end Go.Proofs.YtmkgecapkeojaaaGreat.Eg
end
section
namespace Go.Proofs.YtmkgecapkeojaaaGreat.PDd
open Go.Proofs.YtmkgecapkeojaaaGreat Go.Proofs.YtmkgecapkeojaaaGreat.PDa Go.Proofs.YtmkgecapkeojaaaGreat.Eg
open Go.RowKit Go.Proofs.YtmkgecapkeojaaaGreatW.PrintWords Go.Proofs.YtmkgecapkeojaaaGreatW.PrintLast Go.Proofs.YtmkgecapkeojaaaGreatW.PrintMore
def r64 (z : Int) : Bool := decide (-9223372036854775808 ≤ z) && decide (z ≤ 9223372036854775807)
theorem r64_of {z : Int} (h : r64 z = true) : EvP.R64 z := by
 unfold r64 at h; rw [Bool.and_eq_true] at h; exact ⟨of_decide_eq_true h.1, of_decide_eq_true h.2⟩
def okEs (l : List S41) : Bool := l.all fun e => decide (e.f0.length ≤ 4398046511104) && e.f0.all fun v => r64 v.f1
def okXs (x : List S68) : Bool := x.all fun o => r64 o.f1
theorem okEs_row {l : List S41} (h : okEs l = true) : ∀ e ∈ l, e.f0.length ≤ 4398046511104 := fun e he => by
 have := List.all_eq_true.1 h e he; rw [Bool.and_eq_true] at this; exact of_decide_eq_true this.1
theorem okX {l : List S41} {x : List S68} (h : okEs l = true) (hx : okXs x = true) : EOk x l := fun e he => by
 refine ⟨fun o ho => r64_of (List.all_eq_true.1 hx o ho), fun v hv => ?_⟩; have := List.all_eq_true.1 h e he; rw [Bool.and_eq_true, List.all_eq_true] at this; exact r64_of (this.2 v hv)
def linear_Filter.f (l0 : List S41) (l1 : List S68) : Option (List S41 × Int) := if (okEs l0 && okXs l1) = true then some ((filterP (EvP.holdsV l1) (EvP.formV l1) l0).1, (filterP (EvP.holdsV l1) (EvP.formV l1) l0).2) else none
theorem linear_Filter.calls (A0 : Option Addr) (c0 : Nat) (l0 : List (S41)) (A1 : Option Addr) (c1 : Nat) (l1 : List (S68)) (r1 : List (S41)) (r2 : Int) (w : World) (hr0 : Kd.C k41 w A0 l0.length l0) (hc0 : l0.length ≤ c0) (hr1 : Kd.C k68 w A1 l1.length l1) (hc1 : l1.length ≤ c1) (h : linear_Filter.f l0 l1 = some (r1, r2)) :
  Calls Tryz.prog 18 #[.slice A0 l0.length c0, .slice A1 l1.length c1] w fun e w' => ∃ v0_ : Value, e = .returned (.tuple #[v0_, .int .i64 r2]) ∧ Kd.R k41 41 w' w.heap.size (fun _ => True) v0_ r1 ∧ Below w.heap.size w w' := by
 unfold linear_Filter.f at h
 by_cases hl : (okEs l0 && okXs l1) = true
 ·rw [if_pos hl] at h
  rw [Bool.and_eq_true] at hl; simp only [Option.some.injEq, Prod.mk.injEq] at h; obtain ⟨rfl, rfl⟩ := h; have hx := okX hl.1 hl.2; exact Filter_calls (EvP.holdsV l1) (EvP.formV l1) A0 c0 l0 A1 c1 l1 w hr0 (okEs_row hl.1) hr1 hc1 (fun e he => (EvP.holds_E l1 e.f0 (hx e he)).get) (EvP.form_E l1).get
 ·rw [if_neg hl] at h; cases h
def linear_Project.f (l0 : List S41) (l1 : List (List S68)) : Option (List S41 × Int) := if (okEs l0 && l1.all okXs) = true then some ((projV EvP.evalV EvP.formV l1 l0).1, (projV EvP.evalV EvP.formV l1 l0).2) else none
theorem linear_Project.calls (A0 : Option Addr) (c0 : Nat) (l0 : List (S41)) (A1 : Option Addr) (c1 : Nat) (l1 : List (List (S68))) (r1 : List (S41)) (r2 : Int) (w : World) (hr0 : Kd.C k41 w A0 l0.length l0) (hc0 : l0.length ≤ c0) (hr1 : Kd.C (Kd.slice 68 k68) w A1 l1.length l1) (hc1 : l1.length ≤ c1) (h : linear_Project.f l0 l1 = some (r1, r2)) :
  Calls Tryz.prog 21 #[.slice A0 l0.length c0, .slice A1 l1.length c1] w fun e w' => ∃ v0_ : Value, e = .returned (.tuple #[v0_, .int .i64 r2]) ∧ Kd.R k41 41 w' w.heap.size (fun _ => True) v0_ r1 ∧ Below w.heap.size w w' := by
 unfold linear_Project.f at h
 by_cases hl : (okEs l0 && l1.all okXs) = true
 ·rw [if_pos hl] at h
  rw [Bool.and_eq_true] at hl; simp only [Option.some.injEq, Prod.mk.injEq] at h; obtain ⟨rfl, rfl⟩ := h; refine (Project_calls EvP.evalV EvP.formV A0 c0 l0 A1 c1 l1 w hr0 (okEs_row hl.1) hr1 (fun x hx => (EvP.form_E x).get) (fun _ _ x hx e he => (EvP.eval_E x e.f0 (okX hl.1 (List.all_eq_true.1 hl.2 x hx) e he)).get)).mono ?_; rintro e w' ⟨v, r, hp, rfl, hR, hb⟩; rw [← proj_is hp]; exact ⟨v, rfl, hR, hb⟩
 ·rw [if_neg hl] at h; cases h
end Go.Proofs.YtmkgecapkeojaaaGreat.PDd
end
section
namespace Go.Proofs.YtmkgecapkeojaaaGreat.Eg
open Go.Proofs.YtmkgecapkeojaaaGreat Go.Proofs.YtmkgecapkeojaaaGreat.PDa
open Go.RowKit Go.Proofs.YtmkgecapkeojaaaGreatW.PrintWords Go.Proofs.YtmkgecapkeojaaaGreatW.PrintLast Go.Proofs.YtmkgecapkeojaaaGreatW.PrintMore
open Go.Proofs.YtmkgecapkeojaaaGreat.Stp Go.Proofs.YtmkgecapkeojaaaGreat.Rw Go.Proofs.YtmkgecapkeojaaaGreat.SortM
theorem hsame_calls (A0 A1 : Option Addr) (c0 c1 : Nat) (l : List EdP) (w : World) (hr0 : Kd.C kE w A0 l.length l) (hc0 : l.length ≤ c0) (hr1 : Kd.C kE w A1 l.length l) (hc1 : l.length ≤ c1) (hl : l.length ≤ 1000000000) (hrow : ∀ e ∈ l, e.f0.length ≤ 4398046511104) :
  Calls Tryz.prog 20 #[.slice A0 l.length c0, .slice A1 l.length c1] w fun e w' => e = .returned (.bool true) ∧ Below w.heap.size w w' := by
 have HA := Lib.hid hr0; have HD := Lib.hid hr1; have HRW := Lib.hid hrow; have HL := Lib.hid hl; clear hr0 hr1 hrow hc0 hc1 hl; go_enter Tryz.func20, Tryz.ntmps20; go_wp2
 go_loopw [5] (fun v5 wr => ∃ (i : Nat), i ≤ l.length ∧ v5 = .int .i64 (i : Int) ∧ Aside0 (Below w.heap.size w wr)) (fun v5 wr => l.length - (intOf v5).toNat)
 case atStart => exact ⟨0, Nat.zero_le _, rfl, ⟨Below.refl _ _⟩⟩
 case round =>
  obtain ⟨i, hi, rfl, HB⟩ := hrel; have hll := HL.out
  by_cases c : i < l.length
  ·obtain ⟨X, hX⟩ : ∃ X, l[i] = X := ⟨_, rfl⟩
   obtain ⟨ad, Ax, cx, e1, x0, x1, x2, x3, x4⟩ := at_T41 (Kd.C_below HA.out HB.out) (i : Int) zq4 zq4; obtain ⟨bd, Ay, cy, e2, y0, y1, y2, y3, y4⟩ := at_T41 (Kd.C_below HD.out HB.out) (i : Int) zq4 zq4; rw [Int.toNat_natCast, rdE l i c, hX] at x0 x1 x2 y0 y1 y2; rw [rdE l i c, hX] at x3 x4 y3 y4; cases e1; cases e2; have hs := same06 X.f0 X.f0 (HRW.out X (by rw [← hX]; exact List.getElem_mem c)); rw [eqR_refl] at hs; obtain ⟨ks, hks⟩ := hs.get; have CM := Lib.hid (fun (p : BelowOf wr) => (show Calls Tryz.prog 53 #[.slice Ax X.f0.length cx, .slice Ay X.f0.length cy] p.W (fun e w' => e = .returned (.bool true) ∧ Below p.W.heap.size p.W w') from (r06_Same.calls ks Ax cx X.f0 Ay cy X.f0 true p.W (Kd.C_below x4 p.h) x3 (Kd.C_below y4 p.h) y3 hks).mono fun e w' z => ⟨z.1, z.2.below⟩)); have x0' := fun p => BelowOf.cell x0 p
   have x1' := fun p => BelowOf.cell x1 p
   have x2' := fun p => BelowOf.cell x2 p
   have y0' := fun p => BelowOf.cell y0 p
   have y1' := fun p => BelowOf.cell y1 p
   have y2' := fun p => BelowOf.cell y2 p
   have pI : (0 ≤ (i : Int)) = True := eq_true zq4; have qI : ((i : Int) < (l.length : Int)) = True := eq_true zq4; clear x3 x4 y3 y4 hs hks hX; go_wp2; refine wp_region_quiet_below zq17 zq17 ?_
   repeat (go_big_quiet_step (exact below_calls (CM.out _)))
   refine wpQuiet_nil ?_; intro wq hw1; have HWQ := Lib.hid (show Below wr.heap.size wr wq by obtain ⟨p, rfl⟩ := hw1; exact p.h); have HBN := Lib.hid (HB.out.trans (HWQ.out.mono HB.out.size)); clear hw1 x0' x1' x2' y0' y1' y2' x0 x1 x2 y0 y1 y2; go_wp2; go_roundw
   case rel => exact ⟨i + 1, by omega, by go_num, ⟨HBN.out⟩⟩
   case measure => simp [intOf]; omega
  ·obtain rfl : i = l.length := by omega
   go_wp2; go_ret; exact ⟨rfl, HB.out⟩
end Go.Proofs.YtmkgecapkeojaaaGreat.Eg
end
section
namespace Go.Proofs.YtmkgecapkeojaaaGreat.Eg
open Go.Proofs.YtmkgecapkeojaaaGreat Go.Proofs.YtmkgecapkeojaaaGreat.PDa
open Go.RowKit Go.Proofs.YtmkgecapkeojaaaGreatW.PrintWords Go.Proofs.YtmkgecapkeojaaaGreatW.PrintLast Go.Proofs.YtmkgecapkeojaaaGreatW.PrintMore
open Go.Proofs.YtmkgecapkeojaaaGreat.Stp Go.Proofs.YtmkgecapkeojaaaGreat.Rw
structure Hold (p : Prop) : Prop where
 out : p
theorem hold_intro {p : Prop} (h : Hold p) : p := h.out
def v1 : Vl := ⟨1, 1, ⟨#[]⟩⟩
def v2 : Vl := ⟨1, 2, ⟨#[]⟩⟩
def e1 : EdP := ⟨[v1], 2, 1⟩
def e2 : EdP := ⟨[v1], 5, -1⟩
def e3 : EdP := ⟨[v2], 5, 1⟩
def lxw : List Op8 := [⟨3, 0, ⟨#[]⟩⟩, ⟨1, 2, ⟨#[]⟩⟩, ⟨13, 0, ⟨#[]⟩⟩]
def pxw : List Op8 := [⟨1, 7, ⟨#[]⟩⟩]
theorem C_lit {α : Type} {d : Kd α} {W : World} {B : Nat} {t : TypeId} {cs : Array Value} {ps qs : List α} {inner : List Value} {n : Nat} (hq : ps = qs) (hb : W.heap[B]? = some (.cells cs t (0, 0))) (hi : cs.toList = inner) (hn : qs.length = n) (hn2 : n ≤ 100) (hr : Reps (d.K W) d.sz ps inner) : Kd.C d W (some ⟨B, 0, none⟩) n qs := by
 subst hq; subst hn; have ho : OwnRow (d.K W) t d.sz W 0 (.slice (some ⟨B, 0, none⟩) ps.length ps.length) ps := ⟨inner, ⟨hr.1, .inr ⟨B, ps.length, cs, rfl, Nat.zero_le _, hb, Nat.le_refl _, by unfold maxLen; omega, by rw [← Array.length_toList, hi, hr.1], by rw [hi, List.take_of_length_le (by rw [hr.1]; exact Nat.le_refl _)]⟩⟩, hr⟩
 obtain ⟨A, c, he, _, h⟩ := OwnRow.reads ho; cases he; exact h
theorem live_calls (w : World) (fA : PDd.linear_Filter.f [e1, e2, e3] lxw = some ([e3], 0)) (fB : PDd.linear_Project.f [e1, e2, e3] [pxw] = some ([⟨[⟨1, 7, ⟨#[]⟩⟩], 2, 1⟩], 0)) :
  Calls Tryz.prog 17 #[] w fun e w' => e = .returned (.bool true) ∧ Below w.heap.size w w' := by
 go_enter Tryz.func17, Tryz.ntmps17
 go_wp2_with (go_at_call 18; refine hold_intro ?_)
 refine ⟨?_⟩; obtain ⟨W1, hW1⟩ : ∃ W1, ((((w.alloc (.cells #[.int .i64 1, .int .i64 1, .string ⟨#[]⟩] 65 (0, 0))).alloc (.cells #[.int .i64 1, .int .i64 1, .string ⟨#[]⟩] 65 (0, 0))).alloc (.cells #[.int .i64 1, .int .i64 2, .string ⟨#[]⟩] 65 (0, 0))).alloc (.cells #[.slice (some ⟨w.heap.size, 0, none⟩) 1 1, .int .i64 2, .int .i64 1, .slice (some ⟨w.heap.size + 1, 0, none⟩) 1 1, .int .i64 5, .int .i64 (-1), .slice (some ⟨w.heap.size + 1 + 1, 0, none⟩) 1 1, .int .i64 5, .int .i64 1] 41 (0, 0))).alloc (.cells #[.int .i64 3, .int .i64 0, .string ⟨#[]⟩, .int .i64 1, .int .i64 2, .string ⟨#[]⟩, .int .i64 13, .int .i64 0, .string ⟨#[]⟩] 68 (0, 0)) = W1 := ⟨_, rfl⟩
 have hsW1 : W1.heap.size = w.heap.size + 5 := by rw [← hW1]; simp
 have hbW1 : Below w.heap.size w W1 := by rw [← hW1]; exact below_alloc (below_alloc (below_alloc (below_alloc (below_alloc (Below.refl _ w) _) _) _) _) _
 have k0 : W1.heap[w.heap.size]? = some (.cells #[.int .i64 1, .int .i64 1, .string ⟨#[]⟩] 65 (0, 0)) := by
  have h1 := blk_new (w) (.cells #[.int .i64 1, .int .i64 1, .string ⟨#[]⟩] 65 (0, 0)); rw [← hW1]; exact blk_alloc (blk_alloc (blk_alloc (blk_alloc (h1) _) _) _) _
 have k1 : W1.heap[w.heap.size + 1]? = some (.cells #[.int .i64 1, .int .i64 1, .string ⟨#[]⟩] 65 (0, 0)) := by
  have h1 := blk_new (w.alloc (.cells #[.int .i64 1, .int .i64 1, .string ⟨#[]⟩] 65 (0, 0))) (.cells #[.int .i64 1, .int .i64 1, .string ⟨#[]⟩] 65 (0, 0)); rw [World.size_alloc] at h1; rw [← hW1]; exact blk_alloc (blk_alloc (blk_alloc (h1) _) _) _
 have k2 : W1.heap[w.heap.size + 1 + 1]? = some (.cells #[.int .i64 1, .int .i64 2, .string ⟨#[]⟩] 65 (0, 0)) := by
  have h1 := blk_new ((w.alloc (.cells #[.int .i64 1, .int .i64 1, .string ⟨#[]⟩] 65 (0, 0))).alloc (.cells #[.int .i64 1, .int .i64 1, .string ⟨#[]⟩] 65 (0, 0))) (.cells #[.int .i64 1, .int .i64 2, .string ⟨#[]⟩] 65 (0, 0)); rw [World.size_alloc, World.size_alloc] at h1; rw [← hW1]; exact blk_alloc (blk_alloc (h1) _) _
 have k3 : W1.heap[w.heap.size + 1 + 1 + 1]? = some (.cells #[.slice (some ⟨w.heap.size, 0, none⟩) 1 1, .int .i64 2, .int .i64 1, .slice (some ⟨w.heap.size + 1, 0, none⟩) 1 1, .int .i64 5, .int .i64 (-1), .slice (some ⟨w.heap.size + 1 + 1, 0, none⟩) 1 1, .int .i64 5, .int .i64 1] 41 (0, 0)) := by
  have h1 := blk_new (((w.alloc (.cells #[.int .i64 1, .int .i64 1, .string ⟨#[]⟩] 65 (0, 0))).alloc (.cells #[.int .i64 1, .int .i64 1, .string ⟨#[]⟩] 65 (0, 0))).alloc (.cells #[.int .i64 1, .int .i64 2, .string ⟨#[]⟩] 65 (0, 0))) (.cells #[.slice (some ⟨w.heap.size, 0, none⟩) 1 1, .int .i64 2, .int .i64 1, .slice (some ⟨w.heap.size + 1, 0, none⟩) 1 1, .int .i64 5, .int .i64 (-1), .slice (some ⟨w.heap.size + 1 + 1, 0, none⟩) 1 1, .int .i64 5, .int .i64 1] 41 (0, 0)); rw [World.size_alloc, World.size_alloc, World.size_alloc] at h1; rw [← hW1]; exact blk_alloc (h1) _
 have k4 : W1.heap[w.heap.size + 1 + 1 + 1 + 1]? = some (.cells #[.int .i64 3, .int .i64 0, .string ⟨#[]⟩, .int .i64 1, .int .i64 2, .string ⟨#[]⟩, .int .i64 13, .int .i64 0, .string ⟨#[]⟩] 68 (0, 0)) := by
  have h1 := blk_new ((((w.alloc (.cells #[.int .i64 1, .int .i64 1, .string ⟨#[]⟩] 65 (0, 0))).alloc (.cells #[.int .i64 1, .int .i64 1, .string ⟨#[]⟩] 65 (0, 0))).alloc (.cells #[.int .i64 1, .int .i64 2, .string ⟨#[]⟩] 65 (0, 0))).alloc (.cells #[.slice (some ⟨w.heap.size, 0, none⟩) 1 1, .int .i64 2, .int .i64 1, .slice (some ⟨w.heap.size + 1, 0, none⟩) 1 1, .int .i64 5, .int .i64 (-1), .slice (some ⟨w.heap.size + 1 + 1, 0, none⟩) 1 1, .int .i64 5, .int .i64 1] 41 (0, 0))) (.cells #[.int .i64 3, .int .i64 0, .string ⟨#[]⟩, .int .i64 1, .int .i64 2, .string ⟨#[]⟩, .int .i64 13, .int .i64 0, .string ⟨#[]⟩] 68 (0, 0)); rw [World.size_alloc, World.size_alloc, World.size_alloc, World.size_alloc] at h1; rw [← hW1]; exact h1
 rw [hW1]; have r1 : ∀ (b : Nat) (v : Vl), W1.heap[b]? = some (.cells #[.int .i64 v.f0, .int .i64 v.f1, .string v.f2] 65 (0, 0)) → Kd.C kV W1 (some ⟨b, 0, none⟩) 1 [v] := fun b v h => by
  refine C_lit (d := kV) (ps := [] ++ [v]) (inner := [] ++ [.int .i64 v.f0, .int .i64 v.f1, .string v.f2]) rfl h rfl rfl zq34 (Reps.snoc (ps := []) (p := v) (Reps.none (kV.K W1) kV.sz) (k65_mk W1 v) rfl)
 have hC : Kd.C kE W1 (some ⟨w.heap.size + 1 + 1 + 1, 0, none⟩) 3 [e1, e2, e3] :=
  C_lit (d := kE) (ps := [] ++ [e1] ++ [e2] ++ [e3]) (inner := [] ++ [.slice (some ⟨w.heap.size, 0, none⟩) 1 1, .int .i64 2, .int .i64 1] ++ [.slice (some ⟨w.heap.size + 1, 0, none⟩) 1 1, .int .i64 5, .int .i64 (-1)] ++ [.slice (some ⟨w.heap.size + 1 + 1, 0, none⟩) 1 1, .int .i64 5, .int .i64 1]) rfl k3 rfl rfl zq34
   ((((Reps.none (kE.K W1) kE.sz).snoc (p := e1) (k41_mk W1 e1 (Nat.le_refl 1) (r1 _ v1 k0)) rfl).snoc (p := e2) (k41_mk W1 e2 (Nat.le_refl 1) (r1 _ v1 k1)) rfl).snoc (p := e3) (k41_mk W1 e3 (Nat.le_refl 1) (r1 _ v2 k2)) rfl)
 have hX : Kd.C kO W1 (some ⟨w.heap.size + 1 + 1 + 1 + 1, 0, none⟩) 3 lxw :=
  C_lit (d := kO) (ps := [] ++ [(⟨3, 0, ⟨#[]⟩⟩ : Op8)] ++ [⟨1, 2, ⟨#[]⟩⟩] ++ [⟨13, 0, ⟨#[]⟩⟩]) (inner := [] ++ [.int .i64 3, .int .i64 0, .string ⟨#[]⟩] ++ [.int .i64 1, .int .i64 2, .string ⟨#[]⟩] ++ [.int .i64 13, .int .i64 0, .string ⟨#[]⟩]) rfl k4 rfl rfl zq34
   ((((Reps.none (kO.K W1) kO.sz).snoc (p := ⟨3, 0, ⟨#[]⟩⟩) (k68_mk W1 _) rfl).snoc (p := ⟨1, 2, ⟨#[]⟩⟩) (k68_mk W1 _) rfl).snoc (p := ⟨13, 0, ⟨#[]⟩⟩) (k68_mk W1 _) rfl)
 have HC := Lib.hid hC; have HB1 := Lib.hid hbW1; have FC := Lib.hid (PDd.linear_Filter.calls (some ⟨w.heap.size + 1 + 1 + 1, 0, none⟩) 3 [e1, e2, e3] (some ⟨w.heap.size + 1 + 1 + 1 + 1, 0, none⟩) 3 lxw [e3] 0 W1 hC (Nat.le_refl 3) hX (Nat.le_refl 3) fA); clear hC hX r1 k0 k1 k2 k3 k4 hW1 hsW1 hbW1; refine FC.out.mono ?_; rintro e w2 ⟨va, rfl, hRa, hb2⟩; obtain ⟨Aa, ca, rfl⟩ := Kd.R_slice hRa; have HRA := Lib.hid hRa; have HB2 := Lib.hid (HB1.out.trans (hb2.mono HB1.out.size)); have HC2 := Lib.hid (Kd.C_below HC.out hb2); clear hRa hb2
 go_wp2_with (go_at_call 21; refine hold_intro ?_)
 refine ⟨?_⟩; obtain ⟨W3, hW3⟩ : ∃ W3, (w2.alloc (.cells #[.int .i64 1, .int .i64 7, .string ⟨#[]⟩] 68 (0, 0))).alloc (.cells #[.slice (some ⟨w2.heap.size, 0, none⟩) 1 1] 24 (0, 0)) = W3 := ⟨_, rfl⟩
 have hsW3 : W3.heap.size = w2.heap.size + 2 := by rw [← hW3]; simp
 have hbW3 : Below w2.heap.size w2 W3 := by rw [← hW3]; exact below_alloc (below_alloc (Below.refl _ w2) _) _
 have k5 : W3.heap[w2.heap.size]? = some (.cells #[.int .i64 1, .int .i64 7, .string ⟨#[]⟩] 68 (0, 0)) := by
  have h1 := blk_new (w2) (.cells #[.int .i64 1, .int .i64 7, .string ⟨#[]⟩] 68 (0, 0)); rw [← hW3]; exact blk_alloc (h1) _
 have k6 : W3.heap[w2.heap.size + 1]? = some (.cells #[.slice (some ⟨w2.heap.size, 0, none⟩) 1 1] 24 (0, 0)) := by
  have h1 := blk_new (w2.alloc (.cells #[.int .i64 1, .int .i64 7, .string ⟨#[]⟩] 68 (0, 0))) (.cells #[.slice (some ⟨w2.heap.size, 0, none⟩) 1 1] 24 (0, 0)); rw [World.size_alloc] at h1; rw [← hW3]; exact h1
 rw [hW3]; have hY : Kd.C kO W3 (some ⟨w2.heap.size, 0, none⟩) 1 pxw :=
  C_lit (d := kO) (ps := [] ++ [(⟨1, 7, ⟨#[]⟩⟩ : Op8)]) (inner := [] ++ [.int .i64 1, .int .i64 7, .string ⟨#[]⟩]) rfl k5 rfl rfl zq34
   ((Reps.none (kO.K W3) kO.sz).snoc (p := ⟨1, 7, ⟨#[]⟩⟩) (k68_mk W3 _) rfl)
 have hZ : Kd.C (Kd.slice 68 kO) W3 (some ⟨w2.heap.size + 1, 0, none⟩) 1 [pxw] :=
  C_lit (d := Kd.slice 68 kO) (ps := [] ++ [pxw]) (inner := [] ++ [.slice (some ⟨w2.heap.size, 0, none⟩) 1 1]) rfl k6 rfl rfl zq34
   ((Reps.none ((Kd.slice 68 kO).K W3) (Kd.slice 68 kO).sz).snoc (p := pxw) (show (Kd.slice 68 kO).K W3 pxw [.slice (some ⟨w2.heap.size, 0, none⟩) 1 1] from ⟨_, _, rfl, Nat.le_refl _, hY⟩) rfl)
 have HB3 := Lib.hid (HB2.out.trans (hbW3.mono HB2.out.size)); have HC3 := Lib.hid (Kd.C_below HC2.out hbW3); have HRA3 := Lib.hid (Kd.R_below HRA.out hbW3); have GC := Lib.hid (PDd.linear_Project.calls (some ⟨w.heap.size + 1 + 1 + 1, 0, none⟩) 3 [e1, e2, e3] (some ⟨w2.heap.size + 1, 0, none⟩) 1 [pxw] [⟨[⟨1, 7, ⟨#[]⟩⟩], 2, 1⟩] 0 W3 HC3.out (Nat.le_refl 3) hZ (Nat.le_refl 1) fB); clear hY hZ k5 k6 hW3 hsW3 hbW3 FC HC HC2 HRA HB1 HB2; refine GC.out.mono ?_; rintro e w4 ⟨vb, rfl, hRb, hb4⟩; obtain ⟨Ab, cb, rfl⟩ := Kd.R_slice hRb; have HRB := Lib.hid hRb; have HB4 := Lib.hid (HB3.out.trans (hb4.mono HB3.out.size)); have HC4 := Lib.hid (Kd.C_below HC3.out hb4); have HRA4 := Lib.hid (Kd.R_below HRA3.out hb4); clear hRb hb4 GC HB3 HC3 HRA3; have hrb := (Kd.R_reads' HRB.out).2.2; obtain ⟨ad, Ay, cy, ea, y0, y1, y2, y3, y4⟩ := at_T41 hrb (0 : Int) zq34 zq30; cases ea; have Y1 : w4.cell? ⟨ad.block, ad.off + 1, none⟩ = some (.int .i64 2) := by simpa [Addr.add, rd_T41] using y1
 have Y2 : w4.cell? ⟨ad.block, ad.off + 2, none⟩ = some (.int .i64 1) := by simpa [Addr.add, rd_T41] using y2
 have HY1 := Lib.hid Y1; have HY2 := Lib.hid Y2; clear y0 y1 y2 y3 y4 hrb Y1 Y2; obtain ⟨i0, hi0, p1, hsz0, p2⟩ := info_parts info41; have hcut0 := cut_from (P := Tryz.prog) 22 41 .i64 Tryz.underlying22 hi0 3 hsz0 (some ⟨w.heap.size + 1 + 1 + 1, 0, none⟩) 3 3 2 zq34 zq34; have hdr := Kd.C_drop (c := 3) (m := 2) HC4.out zq34 zq34; obtain ⟨A5, hA5⟩ : ∃ A1, A1 = (if 3 = 2 then (some ⟨w.heap.size + 1 + 1 + 1, 0, none⟩ : Option Addr) else (some (⟨w.heap.size + 1 + 1 + 1, 0, none⟩ : Addr)).map (·.add (2 * 3))) := ⟨_, rfl⟩
 have hcut : ∀ W : World, (Instr.slice 22 (.slice (some ⟨w.heap.size + 1 + 1 + 1, 0, none⟩) 3 3) (some (.int .i64 2)) none none).run Tryz.prog W = .ok (.slice A5 1 1) W := by
  intro W; rw [hA5]; exact hcut0 W
 have hC5 : Kd.C kE w4 A5 1 [e3] := by
  rw [hA5]; exact hdr
 have SC := Lib.hid (hsame_calls Aa A5 ca 1 [e3] w4 (Kd.R_reads' HRA4.out).2.2 (Kd.R_reads' HRA4.out).2.1 hC5 (Nat.le_refl 1) zq34 zq34); clear hcut0 hdr hA5 hC5 hi0 hsz0 p1 p2 i0
 go_wp2_with (go_at_call 20; refine hold_intro ?_)
 refine ⟨?_⟩; refine SC.out.mono ?_; rintro e w5 ⟨rfl, hb5⟩; have HB5 := Lib.hid (HB4.out.trans (hb5.mono HB4.out.size)); have z1 := pw_cell_below hb5 HY1.out; have z2 := pw_cell_below hb5 HY2.out; clear SC HB4 HRA4 HC4 HRB HY1 HY2 hb5; go_wp2; go_ret; exact ⟨rfl, HB5.out⟩
end Go.Proofs.YtmkgecapkeojaaaGreat.Eg
end
section
namespace Go.Proofs.YtmkgecapkeojaaaGreat.Eg
open Go.Proofs.YtmkgecapkeojaaaGreat Go.Proofs.YtmkgecapkeojaaaGreat.PDa Go.Proofs.YtmkgecapkeojaaaGreat.EvP
open Go.RowKit Go.Proofs.YtmkgecapkeojaaaGreatW.PrintWords Go.Proofs.YtmkgecapkeojaaaGreatW.PrintLast Go.Proofs.YtmkgecapkeojaaaGreatW.PrintMore
open Go.Proofs.YtmkgecapkeojaaaGreat.Stp Go.Proofs.YtmkgecapkeojaaaGreat.Rw
theorem nilT : (⟨#[]⟩ : ByteArray).toList = [] := (toList_nil_iff_emptyBytes _).2 rfl
def ltw : T := .b ⟨13, 0, ⟨#[]⟩⟩ (.l ⟨3, 0, ⟨#[]⟩⟩) (.l ⟨1, 2, ⟨#[]⟩⟩)
theorem ltw_ok : ltw.ok := by
 refine ⟨?_, by decide, ⟨?_, by decide⟩, ⟨?_, by decide⟩⟩ <;> simp [okW, noT, nilT, takes]
theorem lxw_form : formV lxw = 0 := by
 have h := parse_fl ltw ltw_ok [] []; rw [List.append_nil] at h; have e : ltw.fl = lxw := rfl; unfold formV; rw [if_neg zq34, ← e, h]; rfl
theorem rowMay1 (a : Int) : rowMay [⟨1, a, ⟨#[]⟩⟩] = true := by simp [rowMay, thOf, nilT]
theorem thO_num (a : Int) : thO (Th.num a) = some (Th.num a) := by
 simp [thO, thVal3, thOf]
theorem lx_v1 : holdsV lxw [v1] = (false, 0) := by
 have e : ltw.fl = lxw := rfl; have h : evalV lxw [v1] = (1, 0, ⟨#[]⟩, 0) := by
  rw [← e, evalV_T ltw ltw_ok [v1] (by rw [e]; exact lxw_form) (rowMay1 1)]; simp [T.ev, ltw, evL, evB, v1, compareS, getTh, rd_T65, outV, thVal3, Except.map]; simp only [thO_num]
  rfl
 unfold holdsV; rw [h]
 rfl
theorem lx_v2 : holdsV lxw [v2] = (true, 0) := by
 have e : ltw.fl = lxw := rfl; have h : evalV lxw [v2] = (1, 1, ⟨#[]⟩, 0) := by
  rw [← e, evalV_T ltw ltw_ok [v2] (by rw [e]; exact lxw_form) (rowMay1 2)]; simp [T.ev, ltw, evL, evB, v2, compareS, getTh, rd_T65, outV, thVal3, Except.map]; simp only [thO_num]
  rfl
 unfold holdsV; rw [h]
 rfl
def ptw : T := .l ⟨1, 7, ⟨#[]⟩⟩
theorem ptw_ok : ptw.ok := by
 refine ⟨?_, by decide⟩ ; simp [okW, noT, nilT, takes]
theorem pxw_form : formV pxw = 0 := by
 have h := parse_fl ptw ptw_ok [] []; rw [List.append_nil] at h; have e : ptw.fl = pxw := rfl; unfold formV; rw [if_neg zq34, ← e, h]; rfl
theorem px_v (a : Int) : evalV pxw [⟨1, a, ⟨#[]⟩⟩] = (1, 7, ⟨#[]⟩, 0) := by
 have e : ptw.fl = pxw := rfl; rw [← e, evalV_T ptw ptw_ok _ (by rw [e]; exact pxw_form) (rowMay1 a)]
 rfl
theorem eq11 : eqR [v1] [v1] = true := eqR_refl _
theorem eq12 : eqR [v1] [v2] = false := by
 cases h : eqR [v1] [v2] with
 | false => rfl
 | true =>
  have := (eqR_iff _ _).1 h; simp [v1, v2] at this
theorem cmp12 : cmpR [v1] [v2] < 0 := by
 rw [cmpR_rC (show rowMay [v1] = true from rowMay1 1) (show rowMay [v2] = true from rowMay1 2)]
 decide
theorem eqR_comm {a b : List Rw.Vl} (h : eqR a b = false) : eqR b a = false := by
 cases h2 : eqR b a with
 | false => rfl
 | true =>
  have := (eqR_iff _ _).1 h2; subst this; rw [eqR_refl] at h; exact h
theorem runsL : runsP [e1, e2, e3] = [([v1], [⟨2, 1⟩, ⟨5, -1⟩]), ([v2], [⟨5, 1⟩])] := by
 simp [runsP, runAt, e1, e2, e3, eq11, eqR_comm eq12, jmpE]
theorem mayL3 : mayE [e1, e2, e3] = true := by
 unfold mayE eachP; rw [runsL]; simp only [eachR, lastB, decide_eq_true cmp12]; have r1 : rowMay [v1] = true := rowMay1 1; have r2 : rowMay [v2] = true := rowMay1 2; rw [r1, r2]
 decide
theorem factA : PDd.linear_Filter.f [e1, e2, e3] lxw = some ([e3], 0) := by
 unfold PDd.linear_Filter.f; rw [if_pos zq34]; have h : filterP (holdsV lxw) (formV lxw) [e1, e2, e3] = ([e3], 0) := by
  unfold filterP; rw [if_pos mayL3, lxw_form, if_neg zq34, runsL]; simp only [filR, lx_v1, lx_v2]; have r2 : rowMay [v2] = true := rowMay1 2; have b : buildP [v2] [⟨5, 1⟩] = [e3] := by
   unfold buildP; rw [r2]
   rfl
  rw [b]; simp
 rw [h]
def rw7 : List Rw.Vl := [⟨1, 7, ⟨#[]⟩⟩]
theorem rw7_may : rowMay rw7 = true := rowMay1 7
def becL : List EdP := [⟨rw7, 2, 1⟩, ⟨rw7, 5, -1⟩, ⟨rw7, 5, 1⟩]
theorem normL : normV becL = ([⟨rw7, 2, 1⟩], 0) := by
 unfold normV; rw [if_neg (by simp [becL, argE, rw7_may]), if_neg (by simp [becL, timeB])]; have hr : rowsOf becL = [rw7] := inc_uniq _ _ (rowsOf_inc _) (by simp [Inc]) (fun z => by
  rw [rowsOf_mem]
  constructor
  ·rintro ⟨e, he, rfl⟩
   simp only [becL, List.mem_cons, List.not_mem_nil, or_false] at he
   rcases he with rfl | rfl | rfl <;> simp
  ·intro h
   simp only [List.mem_singleton] at h; exact ⟨⟨rw7, 2, 1⟩, by simp [becL], h.symm⟩)
 have hj : jumpsOf becL rw7 = [⟨2, 1⟩, ⟨5, -1⟩, ⟨5, 1⟩] := by
  simp [jumpsOf, becL, eqR_refl, jmpE]
 have hn : normJ [⟨2, 1⟩, ⟨5, -1⟩, ⟨5, 1⟩] = ([⟨2, 1⟩], 0) := by rfl
 unfold groups; rw [hr]; simp only [List.map_cons, List.map_nil, hj, mapR, hn]
 rfl
theorem factB : PDd.linear_Project.f [e1, e2, e3] [pxw] = some ([⟨[⟨1, 7, ⟨#[]⟩⟩], 2, 1⟩], 0) := by
 unfold PDd.linear_Project.f; rw [if_pos zq34]; have h : projV evalV formV [pxw] [e1, e2, e3] = ([⟨[⟨1, 7, ⟨#[]⟩⟩], 2, 1⟩], 0) := by
  unfold projV; rw [if_pos mayL3, if_neg zq34]; have h1 : formAll formV [pxw] = 0 := by simp [formAll, pxw_form]
  rw [if_neg (by rw [h1]; decide)]; unfold becV; rw [runsL]; have p1 : projR evalV [v1] [] [pxw] = (rw7, 0) := by
   simp only [projR]; rw [show evalV pxw [v1] = (1, 7, ⟨#[]⟩, 0) from px_v 1]
   rfl
  have p2 : projR evalV [v2] [] [pxw] = (rw7, 0) := by
   simp only [projR]; rw [show evalV pxw [v2] = (1, 7, ⟨#[]⟩, 0) from px_v 2]
   rfl
  have b1 : buildP rw7 [⟨2, 1⟩, ⟨5, -1⟩] = [⟨rw7, 2, 1⟩, ⟨rw7, 5, -1⟩] := by
   unfold buildP; rw [rw7_may]
   rfl
  have b2 : buildP rw7 [⟨5, 1⟩] = [⟨rw7, 5, 1⟩] := by
   unfold buildP; rw [rw7_may]
   rfl
  have hb : becR (fun row => projR evalV row [] [pxw]) [] [([v1], [⟨2, 1⟩, ⟨5, -1⟩]), ([v2], [⟨5, 1⟩])] = (becL, 0) := by
   simp only [becR, p1, p2, b1, b2]
   rfl
  rw [hb, if_neg zq34]; exact normL
 rw [h]
theorem r64b {z : Int} (h : (Lit.int .i64 z).wf = true) : PDd.r64 z = true := by
 have := R64.of_wf h; unfold PDd.r64; rw [Bool.and_eq_true]; exact ⟨decide_eq_true this.1, decide_eq_true this.2⟩
abbrev wfV (v : Rw.Vl) : Prop := (Lit.int .i64 v.f0).wf = true ∧ (Lit.int .i64 v.f1).wf = true ∧ v.f2.size ≤ 140737488351232
abbrev wfE (e : EdP) : Prop := ((∀ v ∈ e.f0, wfV v) ∧ e.f0.length * Tryz.prog.bytesOf 65 ≤ 140737488351232) ∧ (Lit.int .i64 e.f1).wf = true ∧ (Lit.int .i64 e.f2).wf = true
abbrev wfEs (l : List EdP) : Prop := (∀ e ∈ l, wfE e) ∧ l.length * Tryz.prog.bytesOf 41 ≤ 140737488351232
abbrev wfO (x : Op8) : Prop := (Lit.int .i64 x.f0).wf = true ∧ (Lit.int .i64 x.f1).wf = true ∧ x.f2.size ≤ 140737488351232
abbrev wfX (l : List Op8) : Prop := (∀ x ∈ l, wfO x) ∧ l.length * Tryz.prog.bytesOf 68 ≤ 140737488351232
theorem bytesV : Tryz.prog.bytesOf 65 = 32 := by kernel_rfl
theorem okEs_wf {l : List EdP} (h : wfEs l) : PDd.okEs l = true := by
 unfold PDd.okEs; refine List.all_eq_true.2 fun e he => ?_
 obtain ⟨⟨h1, h2⟩, _⟩ := h.1 e he; rw [bytesV] at h2; rw [Bool.and_eq_true]; exact ⟨decide_eq_true zq4, List.all_eq_true.2 fun v hv => r64b (h1 v hv).2.1⟩
theorem okXs_wf {l : List Op8} (h : wfX l) : PDd.okXs l = true := List.all_eq_true.2 fun x hx => r64b (h.1 x hx).2.1
end Go.Proofs.YtmkgecapkeojaaaGreat.Eg
end
section
namespace Go.Proofs.YtmkgecapkeojaaaGreat.Eg
open Go.Proofs.YtmkgecapkeojaaaGreat Go.Proofs.YtmkgecapkeojaaaGreat.PDa
open Go.RowKit Go.Proofs.YtmkgecapkeojaaaGreatW.PrintWords Go.Proofs.YtmkgecapkeojaaaGreat.Stp Go.Proofs.YtmkgecapkeojaaaGreat.Rw Go.Proofs.YtmkgecapkeojaaaGreat.Cmp Go.Proofs.YtmkgecapkeojaaaGreat.Canon
abbrev KK := List Vl × Int
def pE (e : EdP) : KK × Int := ((e.f0, e.f1), e.f2)
def ltK (a b : KK) : Bool := decide (keyC a b < 0)
theorem ltK_ord : KOrd ltK := keyC_is.kord
abbrev JE (l : List EdP) (k : KK) : Int := J (l.map pE) k
abbrev IsC (l : List EdP) : Prop := IsCanon ltK (l.map pE)
theorem keyC_row {a b : KK} (h : rC a.1 b.1 < 0) : keyC a b < 0 := by
 unfold keyC pairC; rw [if_neg (by omega)]; exact h
theorem keyC_at {r : List Vl} {s t : Int} (h : s < t) : keyC (r, s) (r, t) < 0 := by
 unfold keyC pairC; rw [if_pos (rC_is.self r)]
 show icmp s t < 0
 unfold icmp; rw [if_pos h]; decide
theorem jumpsOf_append (a b : List EdP) (r : List Vl) : jumpsOf (a ++ b) r = jumpsOf a r ++ jumpsOf b r := by simp [jumpsOf]
theorem jumpsOf_put (s r : List Vl) (f : List Jp) : jumpsOf (putP [] s f) r = if s = r then f else [] := by
 unfold jumpsOf putP; rw [List.nil_append]
 by_cases h : s = r
 ·rw [if_pos h, List.filter_eq_self.2 (by intro e he; obtain ⟨j, _, rfl⟩ := List.mem_map.1 he; exact (eqR_iff _ _).2 h), List.map_map]
  exact (List.map_congr_left fun j _ => rfl).trans (List.map_id _)
 ·rw [if_neg h, List.filter_eq_nil_iff.2 (by intro e he; obtain ⟨j, _, rfl⟩ := List.mem_map.1 he; exact fun h2 => h ((eqR_iff _ _).1 h2))]; rfl
theorem J_split (r : List Vl) (t : Int) : ∀ l : List EdP, JE l (r, t) = J ((jumpsOf l r).map pJ) t
 | [] => rfl
 | e :: es => by
  show J (pE e :: es.map pE) (r, t) = _
  rw [J_cons, jumpsOf_cons, List.map_append, J_append, ← J_split r t es]
  congr 1
  by_cases h : e.f0 = r
  ·rw [if_pos h]
   show (if (e.f0, e.f1) = (r, t) then e.f2 else 0) = J [pJ (jmpE e)] t
   rw [J_cons, J_nil, h]
   show _ = (if e.f1 = t then e.f2 else 0) + 0
   by_cases h2 : e.f1 = t
   ·rw [if_pos (by rw [h2]), if_pos h2]; omega
   ·rw [if_neg (fun h3 => h2 (Prod.mk.inj h3).2), if_neg h2]; rfl
  ·rw [if_neg h]
   show (if (e.f0, e.f1) = (r, t) then e.f2 else 0) = _
   rw [if_neg (fun h3 => h (Prod.mk.inj h3).1)]; rfl
theorem canonJ_J (f : List Jp) (t : Int) : J ((canonJ f).map pJ) t = if t < 1125899906842624 then J (f.map pJ) t else 0 := by
 unfold canonJ; rw [List.map_map, show (pJ ∘ uJ) = id from rfl, List.map_id, J_canon, J_filterK (fun k => decide (k < 1125899906842624))]; simp
theorem canonJ_is (f : List Jp) : IsCanon ltI ((canonJ f).map pJ) := by
 unfold canonJ; rw [List.map_map, show (pJ ∘ uJ) = id from rfl, List.map_id]; exact canon_is ltI_ord _
def flatG (gs : List (List Vl × List Jp)) : List EdP := gs.flatMap fun x => putP [] x.1 x.2
theorem flatG_cons (x : List Vl × List Jp) (gs : List (List Vl × List Jp)) : flatG (x :: gs) = putP [] x.1 x.2 ++ flatG gs := by simp [flatG]
theorem flatG_mem {gs : List (List Vl × List Jp)} {e : EdP} (h : e ∈ flatG gs) : ∃ x ∈ gs, e.f0 = x.1 ∧ jmpE e ∈ x.2 := by
 unfold flatG putP at h; obtain ⟨x, hx, he⟩ := List.mem_flatMap.1 h; rw [List.nil_append] at he; obtain ⟨j, hj, rfl⟩ := List.mem_map.1 he; exact ⟨x, hx, rfl, hj⟩
theorem flatG_is : ∀ gs : List (List Vl × List Jp), Inc (gs.map (·.1)) → (∀ x ∈ gs, IsCanon ltI (x.2.map pJ)) → IsC (flatG gs)
 | [], _, _ => ⟨List.Pairwise.nil, fun x hx => by cases hx⟩
 | x :: gs, h, hc => by
  rw [List.map_cons] at h; have h1 := List.pairwise_cons.1 h; have ih := flatG_is gs h1.2 fun y hy => hc y (List.mem_cons_of_mem _ hy)
  obtain ⟨c1, c2⟩ := hc x List.mem_cons_self; unfold IsC; rw [flatG_cons, List.map_append]; have hp : (putP [] x.1 x.2).map pE = x.2.map fun j => ((x.1, j.f0), j.f1) := by
   unfold putP; rw [List.nil_append, List.map_map]; rfl
  rw [hp]; refine ⟨List.pairwise_append.2 ⟨?_, ih.1, fun a ha b hb => ?_⟩, fun y hy => ?_⟩
  ·rw [List.pairwise_map] at c1 ⊢
   exact c1.imp fun {a b} hab => decide_eq_true (keyC_at (of_decide_eq_true hab))
  ·obtain ⟨j, hj, rfl⟩ := List.mem_map.1 ha
   obtain ⟨e, he, rfl⟩ := List.mem_map.1 hb; obtain ⟨y, hy, e1, _⟩ := flatG_mem he; refine decide_eq_true (keyC_row ?_)
   show rC x.1 e.f0 < 0
   rw [e1]; exact h1.1 _ (List.mem_map.2 ⟨y, hy, rfl⟩)
  ·rcases List.mem_append.1 hy with hy | hy
   ·obtain ⟨j, hj, rfl⟩ := List.mem_map.1 hy
    exact c2 (pJ j) (List.mem_map.2 ⟨j, hj, rfl⟩)
   ·exact ih.2 y hy
theorem jumpsOf_flatG (g : List Vl → List Jp) (r : List Vl) : ∀ rows : List (List Vl), Inc rows → jumpsOf (flatG (rows.map fun s => (s, g s))) r = if r ∈ rows then g r else []
 | [], _ => by simp [flatG, jumpsOf]
 | s :: rows, h => by
  have h1 := List.pairwise_cons.1 h; rw [List.map_cons, flatG_cons, jumpsOf_append, jumpsOf_put, jumpsOf_flatG g r rows h1.2]
  by_cases e : s = r
  ·subst e
   have hn : ¬ s ∈ rows := fun hm => by have := h1.1 s hm; rw [rC_is.self] at this; omega
   simp [hn]
  ·rw [if_neg e]
   simp [show ¬ r = s from fun h => e h.symm]
def flat (l : List EdP) : List EdP := flatG ((rowsOf l).map fun r => (r, canonJ (jumpsOf l r)))
theorem canonJ_nil : canonJ [] = [] := rfl
theorem jumpsOf_flat (l : List EdP) (r : List Vl) : jumpsOf (flat l) r = canonJ (jumpsOf l r) := by
 unfold flat; rw [jumpsOf_flatG (fun r => canonJ (jumpsOf l r)) r _ (rowsOf_inc l)]
 split
 ·rfl
 ·rename_i h
  rw [jumpsOf_none l r (fun e he e1 => h ((rowsOf_mem l r).2 ⟨e, he, e1⟩)), canonJ_nil]
theorem flat_is (l : List EdP) : IsC (flat l) := by
 refine flatG_is _ ?_ fun x hx => ?_
 ·rw [List.map_map]
  exact (List.map_id _).symm ▸ rowsOf_inc l
 ·obtain ⟨r, _, rfl⟩ := List.mem_map.1 hx
  exact canonJ_is _
theorem flat_J (l : List EdP) (r : List Vl) (t : Int) : JE (flat l) (r, t) = if t < 1125899906842624 then JE l (r, t) else 0 := by
 rw [J_split, jumpsOf_flat, canonJ_J, ← J_split]
theorem flat_row {l : List EdP} {e : EdP} (h : e ∈ flat l) : ∃ e' ∈ l, e'.f0 = e.f0 := by
 obtain ⟨x, hx, e1, _⟩ := flatG_mem h; obtain ⟨r, hr, rfl⟩ := List.mem_map.1 hx; rw [e1]; exact (rowsOf_mem l r).1 hr
def okN (l : List EdP) : Prop := (∀ e ∈ l, argE e = false) ∧ ∀ e ∈ l, timeB e.f1 = false
theorem okN_fair {x : EdP} (h : argE x = false) : rowMay x.f0 = true ∧ fairB x.f2 = true := by
 unfold argE at h; rw [Bool.or_eq_false_iff, Bool.or_eq_false_iff] at h; obtain ⟨h1, h2, h3⟩ := h; refine ⟨by simpa using h1, ?_⟩; unfold fairB; rw [decide_eq_true (show x.f2 ≤ 1048576 by have := of_decide_eq_false h2; omega), decide_eq_true (show -1048576 ≤ x.f2 by have := of_decide_eq_false h3; omega)]; rfl
theorem normJ_ok {l : List EdP} (h : okN l) (r : List Vl) : normJ (jumpsOf l r) = toldJ (canonJ (jumpsOf l r)) := by
 unfold normJ; have h1 : (jumpsOf l r).any (fun x => !fairB x.f1) = false := by
  rw [List.any_eq_false]; intro x hx; obtain ⟨e, he, rfl⟩ := List.mem_map.1 hx; rw [show fairB (jmpE e).f1 = true from (okN_fair (h.1 e (List.mem_filter.1 he).1)).2]; decide
 have h2 : (jumpsOf l r).any (fun x => timeB x.f0) = false := by
  rw [List.any_eq_false]; intro x hx; obtain ⟨e, he, rfl⟩ := List.mem_map.1 hx; rw [show timeB (jmpE e).f0 = false from h.2 e (List.mem_filter.1 he).1]; decide
 rw [if_neg (by rw [h1]; decide), if_neg (by rw [h2]; decide)]
def Fit (F : List EdP) : Prop := (∀ r, mayJ (jumpsOf F r) = true) ∧ F.length ≤ 4096
theorem mapR_flat : ∀ (gs : List (List Vl × List Jp)) (out : List EdP), (∀ x ∈ gs, normJ x.2 = toldJ (canonJ x.2)) → out.length ≤ 4096 →
  mapR normJ out gs = if ((gs.all fun x => mayJ (canonJ x.2)) && decide ((out ++ flatG (gs.map fun x => (x.1, canonJ x.2))).length ≤ 4096)) = true then (out ++ flatG (gs.map fun x => (x.1, canonJ x.2)), 0) else ([], 7)
 | [], out, _, h => by
  rw [mapR]; simp [flatG, h]
 | x :: gs, out, hx, h => by
  have h1 := hx x List.mem_cons_self; rw [mapR, h1, List.map_cons, flatG_cons, List.all_cons, ← List.append_assoc]; unfold toldJ; cases hm : mayJ (canonJ x.2) with
  | false => simp
  | true =>
   have hp : putP out x.1 (canonJ x.2) = out ++ putP [] x.1 (canonJ x.2) := by simp [putP]
   simp only [if_true, hp]
   by_cases hl : 4096 < (out ++ putP [] x.1 (canonJ x.2)).length
   ·rw [if_neg (by simp), if_pos hl, if_neg]
    simp only [Bool.true_and, Bool.and_eq_true, decide_eq_true_eq, List.length_append] at hl ⊢; rintro ⟨_, h2⟩; omega
   ·rw [if_neg (by simp), if_neg hl, mapR_flat gs _ (fun y hy => hx y (List.mem_cons_of_mem _ hy)) (by omega), Bool.true_and]
theorem normV_flat {l : List EdP} (h : okN l) : (Fit (flat l) ∧ normV l = (flat l, 0)) ∨ (¬ Fit (flat l) ∧ normV l = ([], 7)) := by
 have e1 : normV l = mapR normJ [] (groups l) := by
  unfold normV; rw [if_neg (by rw [Bool.not_eq_true, List.any_eq_false]; intro e he; rw [h.1 e he]; decide), if_neg (by rw [Bool.not_eq_true, List.any_eq_false]; intro e he; rw [h.2 e he]; decide)]
 rw [e1, mapR_flat (groups l) [] (fun x hx => by obtain ⟨r, _, rfl⟩ := List.mem_map.1 hx; exact normJ_ok h r) (by simp)]; have e2 : (groups l).map (fun x => (x.1, canonJ x.2)) = (rowsOf l).map fun r => (r, canonJ (jumpsOf l r)) := by unfold groups; rw [List.map_map]; rfl
 rw [e2, List.nil_append, show flatG ((rowsOf l).map fun r => (r, canonJ (jumpsOf l r))) = flat l from rfl]; have e3 : ((groups l).all fun x => mayJ (canonJ x.2)) = true ↔ ∀ r, mayJ (jumpsOf (flat l) r) = true := by
  rw [List.all_eq_true]
  constructor
  ·intro ha r
   rw [jumpsOf_flat]
   by_cases hr : r ∈ rowsOf l
   ·exact ha (r, jumpsOf l r) (List.mem_map.2 ⟨r, hr, rfl⟩)
   ·rw [jumpsOf_none l r (fun e he e1 => hr ((rowsOf_mem l r).2 ⟨e, he, e1⟩))]; rfl
  ·intro ha x hx
   obtain ⟨r, _, rfl⟩ := List.mem_map.1 hx; have := ha r; rw [jumpsOf_flat] at this; exact this
 by_cases c : Fit (flat l)
 ·exact .inl ⟨c, if_pos (by rw [Bool.and_eq_true]; exact ⟨e3.2 c.1, decide_eq_true c.2⟩)⟩
 ·refine .inr ⟨c, if_neg fun h2 => c ?_⟩
  rw [Bool.and_eq_true] at h2; exact ⟨e3.1 h2.1, of_decide_eq_true h2.2⟩
theorem mayL_canon : ∀ (f : List Jp) (a : Int), mayL a f = true → (∀ j ∈ f, a < j.f0 ∧ j.f0 < 1125899906842624 ∧ j.f1 ≠ 0 ∧ fairB j.f1 = true) ∧ f.Pairwise (fun x y => x.f0 < y.f0)
 | [], _, _ => ⟨fun j hj => (by cases hj), List.Pairwise.nil⟩
 | x :: xs, a, h => by
  rw [mayL] at h; simp only [Bool.and_eq_true, decide_eq_true_eq] at h; obtain ⟨⟨⟨⟨h1, h2⟩, h3⟩, h4⟩, h5⟩ := h; obtain ⟨i1, i2⟩ := mayL_canon xs x.f0 h5; refine ⟨fun j hj => ?_, List.pairwise_cons.2 ⟨fun y hy => (i1 y hy).1, i2⟩⟩
  rcases List.mem_cons.1 hj with rfl | hj
  ·exact ⟨h1, h2, h3, h4⟩
  ·obtain ⟨k1, k2⟩ := i1 j hj
   exact ⟨by omega, k2⟩
theorem mayJ_parts {f : List Jp} (h : mayJ f = true) : f.length ≤ 1024 ∧ (∀ j ∈ f, -2 < j.f0 ∧ j.f0 < 1125899906842624 ∧ j.f1 ≠ 0 ∧ fairB j.f1 = true) ∧ f.Pairwise (fun x y => x.f0 < y.f0) := by
 unfold mayJ at h; rw [Bool.and_eq_true] at h; exact ⟨of_decide_eq_true h.1, mayL_canon f _ h.2⟩
theorem mayJ_canon {f : List Jp} (h : mayJ f = true) : IsCanon ltI (f.map pJ) := by
 obtain ⟨_, h1, h2⟩ := mayJ_parts h; refine ⟨?_, fun x hx => ?_⟩
 ·rw [List.pairwise_map]; exact h2.imp fun hh => decide_eq_true hh
 ·obtain ⟨j, hj, rfl⟩ := List.mem_map.1 hx
  exact (h1 j hj).2.2.1
theorem mayL_of : ∀ (f : List Jp) (a : Int), (∀ j ∈ f, a < j.f0 ∧ j.f0 < 1125899906842624 ∧ j.f1 ≠ 0 ∧ fairB j.f1 = true) → f.Pairwise (fun x y => x.f0 < y.f0) → mayL a f = true
 | [], _, _, _ => rfl
 | x :: xs, a, h, hp => by
  have h1 := List.pairwise_cons.1 hp; obtain ⟨a1, a2, a3, a4⟩ := h x List.mem_cons_self; rw [mayL, decide_eq_true a1, decide_eq_true a2, decide_eq_true a3, a4, mayL_of xs x.f0 (fun j hj => ⟨h1.1 j hj, (h j (List.mem_cons_of_mem _ hj)).2⟩) h1.2]
  rfl
theorem runAt_flat : ∀ (es : List EdP) (r : List Vl) (js : List Jp), flatG (runAt r js es) = putP [] r js ++ es
 | [], r, js => by rw [runAt, flatG_cons]; simp [flatG]
 | e :: es, r, js => by
  rw [runAt]
  split
  ·rename_i he
   rw [runAt_flat es]; obtain rfl : e.f0 = r := (eqR_iff _ _).1 he; simp [putP, jmpE]
  ·rw [flatG_cons, runAt_flat es]
   simp [putP, jmpE]
theorem runs_flat (l : List EdP) : flatG (runsP l) = l := by
 cases l with
 | nil => rfl
 | cons e es => rw [runsP, runAt_flat]; rfl
theorem eachR_inc (p : List Jp → Bool) : ∀ (its : List (List Vl × List Jp)) (last : Option (List Vl)), (∀ y, last = some y → rowMay y = true) → eachR p last its = true → Inc (its.map (·.1)) ∧ ∀ y, last = some y → ∀ x ∈ its, rC y x.1 < 0
 | [], _, _, _ => ⟨List.Pairwise.nil, fun y _ x hx => by cases hx⟩
 | z :: its, last, hl, h => by
  rw [eachR, Bool.and_eq_true, Bool.and_eq_true, Bool.and_eq_true] at h; obtain ⟨⟨⟨h1, h2⟩, _⟩, h3⟩ := h; obtain ⟨i1, i2⟩ := eachR_inc p its (some z.1) (fun y hy => by cases hy; exact h1) h3; refine ⟨?_, fun y hy x hx => ?_⟩
  ·rw [List.map_cons]
   refine List.pairwise_cons.2 ⟨fun y hy => ?_, i1⟩; obtain ⟨x, hx, rfl⟩ := List.mem_map.1 hy; exact i2 _ rfl x hx
  ·subst hy
   have hyz : rC y z.1 < 0 := by
    rw [← cmpR_rC (hl y rfl) h1]; exact of_decide_eq_true h2
   rcases List.mem_cons.1 hx with rfl | hx
   ·exact hyz
   ·exact rC_is.trans _ _ _ hyz (i2 _ rfl x hx)
theorem eachR_of (p : List Jp → Bool) : ∀ (its : List (List Vl × List Jp)) (last : Option (List Vl)), (∀ x ∈ its, rowMay x.1 = true ∧ p x.2 = true) → Inc (its.map (·.1)) → (∀ y, last = some y → rowMay y = true ∧ ∀ x ∈ its, rC y x.1 < 0) → eachR p last its = true
 | [], _, _, _, _ => rfl
 | z :: its, last, h, hi, hl => by
  rw [List.map_cons] at hi; have h1 := List.pairwise_cons.1 hi; obtain ⟨a1, a2⟩ := h z List.mem_cons_self; rw [eachR, a1, a2, eachR_of p its (some z.1) (fun x hx => h x (List.mem_cons_of_mem _ hx)) h1.2 (fun y hy => by cases hy; exact ⟨a1, fun x hx => h1.1 _ (List.mem_map.2 ⟨x, hx, rfl⟩)⟩)]; have : lastB last z.1 = true := by
   unfold lastB; cases last with
   | none => rfl
   | some y => exact decide_eq_true (by rw [cmpR_rC (hl y rfl).1 a1]; exact (hl y rfl).2 z List.mem_cons_self)
  rw [this]; rfl
theorem eachR_al (p : List Jp → Bool) : ∀ (its : List (List Vl × List Jp)) (last : Option (List Vl)), eachR p last its = true → ∀ x ∈ its, rowMay x.1 = true ∧ p x.2 = true
 | [], _, _, x, hx => by cases hx
 | y :: ys, last, h, x, hx => by
  rw [eachR, Bool.and_eq_true, Bool.and_eq_true, Bool.and_eq_true] at h
  rcases List.mem_cons.1 hx with rfl | hx
  ·exact ⟨h.1.1.1, h.1.2⟩
  ·exact eachR_al p ys _ h.2 x hx
structure MayP (l : List EdP) : Prop where
 can : IsC l
 each : ∀ e ∈ l, rowMay e.f0 = true ∧ -2 < e.f1 ∧ e.f1 < 1125899906842624 ∧ fairB e.f2 = true
 few : ∀ r, (jumpsOf l r).length ≤ 1024
 len : l.length ≤ 4096
theorem isC_rows {l : List EdP} (h : IsC l) : l.Pairwise (fun a b => rC a.f0 b.f0 ≤ 0) := by
 have h1 := h.1; rw [List.pairwise_map] at h1; refine h1.imp fun {a b} hk => ?_
 have h2 : keyC (pE a).1 (pE b).1 < 0 := of_decide_eq_true hk; unfold keyC pairC pE at h2; simp only at h2
 split at h2
 ·rename_i e; omega
 ·omega
theorem isC_jumps {l : List EdP} (h : IsC l) (r : List Vl) : (jumpsOf l r).Pairwise (fun x y => x.f0 < y.f0) := by
 have h1 := h.1; rw [List.pairwise_map] at h1; unfold jumpsOf; rw [List.pairwise_map, List.pairwise_filter]; refine h1.imp fun {a b} hk ha hb => ?_
 have ea := (eqR_iff _ _).1 ha; have eb := (eqR_iff _ _).1 hb; have h2 : keyC (pE a).1 (pE b).1 < 0 := of_decide_eq_true hk; unfold keyC pairC pE at h2; simp only at h2; rw [ea, eb, if_pos (rC_is.self r)] at h2; unfold icmp at h2
 show a.f1 < b.f1
 split at h2
 ·assumption
 ·split at h2 <;> omega
theorem MayP.jumps {l : List EdP} (h : MayP l) (r : List Vl) : mayJ (jumpsOf l r) = true := by
 unfold mayJ; rw [decide_eq_true (h.few r), mayL_of _ _ (fun j hj => ?_) (isC_jumps h.can r)]
 ·rfl
 ·obtain ⟨e, he, rfl⟩ := List.mem_map.1 hj
  have he := (List.mem_filter.1 he).1; obtain ⟨_, h2, h3, h4⟩ := h.each e he; exact ⟨h2, h3, h.can.2 (pE e) (List.mem_map.2 ⟨e, he, rfl⟩), h4⟩
theorem mayE_iff (l : List EdP) : mayE l = true ↔ MayP l := by
 constructor
 ·intro h
  unfold mayE eachP at h; rw [Bool.and_eq_true] at h; have ha := eachR_al _ _ _ h.2; have hi := (eachR_inc _ _ none (fun y hy => by cases hy) h.2).1; have hc : IsC l := by
   rw [← runs_flat l]; exact flatG_is _ hi fun x hx => mayJ_canon (ha x hx).2
  have hg := runs_groups l (isC_rows hc); have hj : ∀ r, mayJ (jumpsOf l r) = true := fun r => by
   by_cases hr : r ∈ rowsOf l
   ·exact (ha (r, jumpsOf l r) (by rw [hg]; exact List.mem_map.2 ⟨r, hr, rfl⟩)).2
   ·rw [jumpsOf_none l r (fun e he e1 => hr ((rowsOf_mem l r).2 ⟨e, he, e1⟩))]; rfl
  refine ⟨hc, fun e he => ?_, fun r => (mayJ_parts (hj r)).1, of_decide_eq_true h.1⟩; have hm : jmpE e ∈ jumpsOf l e.f0 := List.mem_map.2 ⟨e, List.mem_filter.2 ⟨he, eqR_refl _⟩, rfl⟩; obtain ⟨k1, k2, _, k4⟩ := (mayJ_parts (hj e.f0)).2.1 _ hm; exact ⟨(ha (e.f0, jumpsOf l e.f0) (by rw [hg]; exact List.mem_map.2 ⟨e.f0, (rowsOf_mem l _).2 ⟨e, he, rfl⟩, rfl⟩)).1, k1, k2, k4⟩
 ·intro h
  unfold mayE eachP; rw [decide_eq_true h.len, Bool.true_and, runs_groups l (isC_rows h.can)]; refine eachR_of _ _ _ (fun x hx => ?_) ?_ (fun y hy => by cases hy)
  ·obtain ⟨r, hr, rfl⟩ := List.mem_map.1 hx
   obtain ⟨e, he, e1⟩ := (rowsOf_mem l r).1 hr; refine ⟨?_, h.jumps r⟩
   show rowMay r = true
   rw [← e1]; exact (h.each e he).1
  ·unfold groups
   rw [List.map_map]; exact (List.map_id _).symm ▸ rowsOf_inc l
theorem flat_may {l : List EdP} (h : okN l) (hf : Fit (flat l)) : MayP (flat l) := by
 refine ⟨flat_is l, fun e he => ?_, fun r => (mayJ_parts (hf.1 r)).1, hf.2⟩; obtain ⟨e', he', e1⟩ := flat_row he; have hm : jmpE e ∈ jumpsOf (flat l) e.f0 := List.mem_map.2 ⟨e, List.mem_filter.2 ⟨he, eqR_refl _⟩, rfl⟩; obtain ⟨k1, k2, _, k4⟩ := (mayJ_parts (hf.1 e.f0)).2.1 _ hm; exact ⟨by rw [← e1]; exact (okN_fair (h.1 e' he')).1, k1, k2, k4⟩
theorem okN_of_norm {l : List EdP} (h : (normV l).2 = 0) : okN l ∧ Fit (flat l) ∧ normV l = (flat l, 0) := by
 have hok : okN l := by
  unfold normV at h
  split at h
  ·cases h
  ·split at h
   ·cases h
   ·rename_i h1 h2
    rw [Bool.not_eq_true, List.any_eq_false] at h1 h2; exact ⟨fun e he => by simpa using h1 e he, fun e he => by simpa using h2 e he⟩
 rcases normV_flat hok with ⟨h1, h2⟩ | ⟨h1, h2⟩
 ·exact ⟨hok, h1, h2⟩
 ·rw [h2] at h; cases h
end Go.Proofs.YtmkgecapkeojaaaGreat.Eg
end
section
namespace Go.Proofs.YtmkgecapkeojaaaGreat.Eg
open Go.Proofs.YtmkgecapkeojaaaGreat Go.Proofs.YtmkgecapkeojaaaGreat.PDa
open Go.RowKit Go.Proofs.YtmkgecapkeojaaaGreatW.PrintWords Go.Proofs.YtmkgecapkeojaaaGreatW.PrintLast Go.Proofs.YtmkgecapkeojaaaGreatW.PrintMore
open Go.Proofs.YtmkgecapkeojaaaGreat.Stp Go.Proofs.YtmkgecapkeojaaaGreat.Rw Go.Proofs.YtmkgecapkeojaaaGreat.Canon
open Go.Proofs.YtmkgecapkeojaaaGreat.EvP (U)
theorem rdJ (l : List Jp) (i : Nat) (h : i < l.length) : rd_T85 l (i : Int) = l[i] := by
 unfold rd_T85; rw [Int.toNat_natCast, List.getD_eq_getElem?_getD, List.getElem?_eq_getElem h]
 rfl
def valI : List Jp → Int → Int
 | [], _ => 0
 | x :: xs, p => (if x.f0 ≤ p then x.f1 else 0) + valI xs p
theorem valI_append (p : Int) : ∀ a b : List Jp, valI (a ++ b) p = valI a p + valI b p
 | [], b => by simp [valI]
 | x :: xs, b => by simp [valI, valI_append p xs b]; omega
def Fair (l : List Jp) : Prop := ∀ x ∈ l, -1048576 ≤ x.f1 ∧ x.f1 ≤ 1048576
theorem valI_bound (p : Int) : ∀ l : List Jp, Fair l → -(1048576 * (l.length : Int)) ≤ valI l p ∧ valI l p ≤ 1048576 * (l.length : Int)
 | [], _ => by simp [valI]
 | x :: xs, h => by
  have h1 := h x List.mem_cons_self; have h2 := valI_bound p xs (fun y hy => h y (List.mem_cons_of_mem _ hy)); simp only [valI, List.length_cons]
  split <;> omega
theorem wrapS (z : Int) (h : -4611686018427387904 ≤ z) (h2 : z ≤ 4611686018427387904) : wrap64 z = z := by unfold wrap64; omega
theorem value_l0 (l : List Jp) (p : Int) (hf : Fair l) (hl : l.length ≤ 1000000) : ∀ (m i : Nat), l.length - i = m → i ≤ l.length → U (fun k => r09_Value.l0 k l p (valI (l.take i) p) (i : Int)) (valI l p)
 | m, i, hm, hi => by
  refine EvP.U.succ ?_; simp only [r09_Value.l0]
  by_cases c : i < l.length
  ·refine EvP.U.pos zq4 (EvP.U.pos zq4 ?_)
   rw [rdJ l i c, wrapN i zq4]; have ht : l.take (i + 1) = l.take i ++ [l[i]] := by rw [List.take_add_one, List.getElem?_eq_getElem c]; rfl
   have hb := valI_bound p (l.take i) (fun x hx => hf x (List.mem_of_mem_take hx)); have hti : (l.take i).length = i := by rw [List.length_take]; omega
   rw [hti] at hb; have hf1 := hf _ (List.getElem_mem c)
   by_cases c1 : l[i].f0 ≤ p
   ·refine EvP.U.pos c1 ?_
    rw [wrapS _ zq4 zq4, show valI (l.take i) p + l[i].f1 = valI (l.take (i + 1)) p by rw [ht, valI_append]; simp [valI, c1]]
    match m, hm with
    | 0, hm => omega
    | m + 1, hm => exact value_l0 l p hf hl m (i + 1) zq4 zq4
   ·refine EvP.U.neg c1 ?_
    rw [show valI (l.take i) p = valI (l.take (i + 1)) p by rw [ht, valI_append]; simp [valI, c1]]
    match m, hm with
    | 0, hm => omega
    | m + 1, hm => exact value_l0 l p hf hl m (i + 1) zq4 zq4
  ·obtain rfl : i = l.length := by omega
   refine EvP.U.neg zq4 ?_; rw [List.take_length]; exact EvP.U.some _
theorem value09 (l : List Jp) (p : Int) (hf : Fair l) (hl : l.length ≤ 1000000) : U (fun k => r09_Value.f k l p) (valI l p) := by
 have := value_l0 l p hf hl _ 0 rfl (Nat.zero_le _); unfold r09_Value.f
 simpa [valI] using this
theorem may_len {r : List Vl} (h : rowMay r = true) : r.length ≤ 8 := by
 unfold rowMay at h; rw [Bool.and_eq_true] at h; exact of_decide_eq_true h.1
end Go.Proofs.YtmkgecapkeojaaaGreat.Eg
end
section
namespace Go.Proofs.YtmkgecapkeojaaaGreat.Eg
open Go.Proofs.YtmkgecapkeojaaaGreat Go.Proofs.YtmkgecapkeojaaaGreat.PDa
open Go.RowKit Go.Proofs.YtmkgecapkeojaaaGreatW.PrintWords Go.Proofs.YtmkgecapkeojaaaGreatW.PrintLast Go.Proofs.YtmkgecapkeojaaaGreatW.PrintMore
open Go.Proofs.YtmkgecapkeojaaaGreat.Stp Go.Proofs.YtmkgecapkeojaaaGreat.Rw Go.Proofs.YtmkgecapkeojaaaGreat.Canon
open Go.Proofs.YtmkgecapkeojaaaGreat.EvP (U XOk evalV formV)
theorem thO_ok (v : Th) (h : EvP.VOk v) : (thOf (thVal3 v).1 (thVal3 v).2.1 (thVal3 v).2.2).isSome = true := by
 have nilT : (⟨#[]⟩ : ByteArray).toList = [] := (toList_nil_iff_emptyBytes _).2 rfl; cases v with
 | num n => simp [thVal3, thOf, nilT]
 | txt s =>
  have h' : s.size ≤ 64 := h; simp [thVal3, thOf, h']
theorem evalV_good (x : List Op8) (row : List Vl) (h : XOk x row) (hm : rowMay row = true) (he : (evalV x row).2.2.2 = 0) : (thOf (evalV x row).1 (evalV x row).2.1 (evalV x row).2.2.1).isSome = true := by
 by_cases h0 : ¬ formV x = 0
 ·have e : evalV x row = (0, 0, ⟨#[]⟩, formV x) := by unfold evalV; rw [if_pos h0]
  rw [e] at he; exact absurd he h0
 replace h0 : formV x = 0 := Decidable.not_not.mp h0; obtain ⟨t, ht, rfl, hl⟩ := EvP.formV_0 h0; rw [EvP.evalV_T t ht row h0 hm] at he ⊢; have hg := EvP.good_ev row ⟨hm, h.row⟩ t ht h.x; cases e : t.ev row with
 | error c => rw [e] at hg he; exact absurd he hg
 | ok v => rw [e] at hg; exact thO_ok v hg
theorem projR_good (row : List Vl) (hm : rowMay row = true) : ∀ (xs : List (List Op8)) (out : List Vl), (∀ x ∈ xs, XOk x row) → (∀ v ∈ out, (thOf v.f0 v.f1 v.f2).isSome = true) → (projR evalV row out xs).2 = 0 →
  (projR evalV row out xs).1.length = out.length + xs.length ∧ ∀ v ∈ (projR evalV row out xs).1, (thOf v.f0 v.f1 v.f2).isSome = true
 | [], out, _, ho, _ => by rw [projR]; exact ⟨by simp, ho⟩
 | x :: xs, out, hx, ho, he => by
  rw [projR] at he ⊢
  by_cases c : (evalV x row).2.2.2 ≠ 0
  ·rw [if_pos c] at he; exact absurd he c
  ·rw [if_neg c] at he ⊢
   obtain ⟨h1, h2⟩ := projR_good row hm xs _ (fun y hy => hx y (List.mem_cons_of_mem _ hy)) (fun v hv => by
    rw [List.mem_append, List.mem_singleton] at hv
    rcases hv with hv | rfl
    ·exact ho v hv
    ·exact evalV_good x row (hx x List.mem_cons_self) hm (by simpa using c)) he
   exact ⟨by rw [h1]; simp; omega, h2⟩
theorem made_may (row : List Vl) (hm : rowMay row = true) (xs : List (List Op8)) (hx : ∀ x ∈ xs, XOk x row) (hl : xs.length ≤ 8) (he : (projR evalV row [] xs).2 = 0) : rowMay (projR evalV row [] xs).1 = true := by
 obtain ⟨h1, h2⟩ := projR_good row hm xs [] hx zq30 he; unfold rowMay; rw [Bool.and_eq_true]; exact ⟨decide_eq_true (by rw [h1]; simpa using hl), List.all_eq_true.2 h2⟩
def madeL (mk : List Vl → List Vl × Int) (out : List EdP) : List EdP → List EdP × Int
 | [] => (out, 0)
 | e :: es => if (mk e.f0).2 ≠ 0 then ([], (mk e.f0).2) else madeL mk (out ++ [⟨(mk e.f0).1, e.f1, e.f2⟩]) es
theorem bec_run (mk : List Vl → List Vl × Int) : ∀ (es : List EdP) (out : List EdP) (r : List Vl) (js : List Jp), (∀ x ∈ runAt r js es, ((mk x.1).2 = 0 → rowMay (mk x.1).1 = true) ∧ mayJ x.2 = true) →
  becR mk out (runAt r js es) = if (mk r).2 ≠ 0 then ([], (mk r).2) else madeL mk (out ++ putP [] (mk r).1 js) es
 | [], out, r, js, h => by
  have h1 := h (r, js) (by simp [runAt]); simp only [runAt, becR, madeL]
  split
  ·rfl
  ·rename_i c
   have hb : buildP (mk r).1 js = putP [] (mk r).1 js := by unfold buildP; rw [h1.1 (by simpa using c), h1.2]; rfl
   rw [hb]
 | e :: es, out, r, js, h => by
  rw [runAt] at h ⊢
  by_cases he : eqR e.f0 r = true
  ·rw [if_pos he] at h ⊢
   rw [bec_run mk es out r _ h]; have e1 : e.f0 = r := (eqR_iff _ _).1 he
   by_cases h2 : (mk r).2 ≠ 0
   ·rw [if_pos h2, if_pos h2]
   ·rw [if_neg h2, if_neg h2, madeL, e1, if_neg h2, List.append_assoc]
    congr 2
    unfold putP; rw [List.nil_append, List.nil_append, List.map_append]
    rfl
  ·rw [if_neg he] at h ⊢
   have h1 := h (r, js) List.mem_cons_self; have ih := fun o => bec_run mk es o e.f0 [jmpE e] (fun x hx => h x (List.mem_cons_of_mem _ hx))
   simp only [becR]
   by_cases h2 : (mk r).2 ≠ 0
   ·rw [if_pos h2, if_pos h2]
   ·have hb : buildP (mk r).1 js = putP [] (mk r).1 js := by unfold buildP; rw [h1.1 (by simpa using h2), h1.2]; rfl
    rw [if_neg h2, if_neg h2, ih, madeL, hb]
    rfl
theorem bec_all (mk : List Vl → List Vl × Int) (l : List EdP) (h : mayE l = true) (hmk : ∀ r, rowMay r = true → (∃ e ∈ l, e.f0 = r) → (mk r).2 = 0 → rowMay (mk r).1 = true) : becR mk [] (runsP l) = madeL mk [] l := by
 have ha := mayE_all h; have hin : ∀ x ∈ runsP l, ∃ e ∈ l, e.f0 = x.1 := fun x hx => by obtain ⟨e, he, h1⟩ := (runs_mem l x hx).1; exact ⟨e, he, h1.symm⟩
 cases l with
 | nil => rfl
 | cons e es =>
  rw [runsP] at ha hin ⊢; rw [bec_run mk es [] e.f0 [jmpE e] (fun x hx => ⟨hmk x.1 (ha x hx).1 (hin x hx), (ha x hx).2⟩), madeL]
  rfl
def projD (xs : List (List Op8)) (l : List EdP) : List EdP × Int :=
 if mayE l = true then (if 8 < xs.length then ([], 6) else if formAll formV xs ≠ 0 then ([], formAll formV xs) else if (madeL (fun row => projR evalV row [] xs) [] l).2 ≠ 0 then ([], (madeL (fun row => projR evalV row [] xs) [] l).2) else normV (madeL (fun row => projR evalV row [] xs) [] l).1) else ([], 2)
theorem projD_is (xs : List (List Op8)) (l : List EdP) (hx : ∀ x ∈ xs, EOk x l) : projV evalV formV xs l = projD xs l := by
 unfold projV projD
 by_cases h : mayE l = true
 ·rw [if_pos h, if_pos h]
  by_cases h1 : 8 < xs.length
  ·rw [if_pos h1, if_pos h1]
  ·rw [if_neg h1, if_neg h1]
   unfold becV; rw [bec_all _ l h (fun r hr ⟨e, he, e1⟩ h0 => made_may r hr xs (fun x hx' => by rw [← e1]; exact hx x hx' e he) zq4 h0)]
 ·rw [if_neg h, if_neg h]
end Go.Proofs.YtmkgecapkeojaaaGreat.Eg
end
section
namespace Go.Proofs.YtmkgecapkeojaaaGreat.Eg
open Go.Proofs.YtmkgecapkeojaaaGreat Go.Proofs.YtmkgecapkeojaaaGreat.PDa
open Go.Proofs.YtmkgecapkeojaaaGreat.EvP (evalV formV holdsV)
open Go.RowKit Go.Proofs.YtmkgecapkeojaaaGreatW.PrintWords Go.Proofs.YtmkgecapkeojaaaGreat.Stp Go.Proofs.YtmkgecapkeojaaaGreat.Rw Go.Proofs.YtmkgecapkeojaaaGreat.Cmp Go.Proofs.YtmkgecapkeojaaaGreat.Canon
def S (φ : KK → Int) : List (KK × Int) → Int
 | [] => 0
 | x :: xs => φ x.1 * x.2 + S φ xs
theorem S_ins (φ : KK → Int) (x : KK × Int) : ∀ l, S φ (ins ltK x l) = φ x.1 * x.2 + S φ l
 | [] => rfl
 | y :: ys => by
  unfold ins
  split
  ·rename_i h
   show φ y.1 * (x.2 + y.2) + _ = φ x.1 * x.2 + (φ y.1 * y.2 + _)
   rw [h, Int.mul_add]; omega
  ·split
   ·rfl
   ·rw [S, S_ins φ x ys, S]; omega
theorem S_canon (φ : KK → Int) (l : List (KK × Int)) : S φ (canon ltK l) = S φ l := by
 have h0 : ∀ l : List (KK × Int), S φ (l.filter fun x => decide (x.2 ≠ 0)) = S φ l := by
  intro l
  induction l with
  | nil => rfl
  | cons x xs ih =>
   rw [List.filter_cons]
   by_cases h : x.2 = 0
   ·rw [if_neg (by simp [h]), ih, S, h, Int.mul_zero]; omega
   ·rw [if_pos (by simp [h]), S, S, ih]
 unfold canon; rw [h0]
 induction l with
 | nil => rfl
 | cons x xs ih => rw [List.foldr_cons, S_ins, ih, S]
theorem S_congr (φ : KK → Int) {a b : List (KK × Int)} (h : ∀ k, J a k = J b k) : S φ a = S φ b := by rw [← S_canon φ a, ← S_canon φ b, canon_congr ltK_ord h]
def mapE (g : List Vl → List Vl) (e : EdP) : EdP := ⟨g e.f0, e.f1, e.f2⟩
theorem jumpsOf_filter (p : List Vl → Bool) (r : List Vl) : ∀ l : List EdP, (jumpsOf (l.filter fun e => p e.f0) r).length ≤ (jumpsOf l r).length := fun l => by
 unfold jumpsOf; rw [List.length_map, List.length_map]; exact (List.Sublist.filter _ List.filter_sublist).length_le
theorem MayP.filter {l : List EdP} (h : MayP l) (p : List Vl → Bool) : MayP (l.filter fun e => p e.f0) := by
 refine ⟨?_, fun e he => h.each e (List.mem_filter.1 he).1, fun r => Nat.le_trans (jumpsOf_filter p r l) (h.few r), Nat.le_trans (List.length_filter_le _ _) h.len⟩; have := h.can.filter (fun x => p x.1.1); rw [List.filter_map] at this; exact this
theorem filL_ok (hh : List Vl → Bool × Int) : ∀ (l out : List EdP), (filL hh out l).2 = 0 → ∀ e ∈ l, (hh e.f0).2 = 0
 | [], _, _, e, he => by cases he
 | x :: xs, out, h, e, he => by
  rw [filL] at h
  split at h
  ·rename_i c; exact absurd h c
  ·rename_i c
   rcases List.mem_cons.1 he with rfl | he
   ·simpa using c
   ·split at h <;> exact filL_ok hh xs _ h e he
theorem filL_of (hh : List Vl → Bool × Int) : ∀ (l out : List EdP), (∀ e ∈ l, (hh e.f0).2 = 0) → filL hh out l = (out ++ l.filter (fun e => (hh e.f0).1), 0)
 | [], out, _ => by simp [filL]
 | x :: xs, out, h => by
  rw [filL, if_neg (by simpa using h x List.mem_cons_self)]; have ih := fun o => filL_of hh xs o fun e he => h e (List.mem_cons_of_mem _ he)
  rw [List.filter_cons]
  split
  ·rw [ih, List.append_assoc]; rfl
  ·exact ih _
theorem filterP_parts {hh : List Vl → Bool × Int} {ef : Int} {l f : List EdP} (h : filterP hh ef l = (f, 0)) : MayP l ∧ ef = 0 ∧ (∀ e ∈ l, (hh e.f0).2 = 0) ∧ f = l.filter fun e => (hh e.f0).1 := by
 unfold filterP at h
 by_cases c : mayE l = true
 ·rw [if_pos c] at h
  by_cases c2 : ef = 0
  ·rw [if_neg (by simpa using c2), fil_all hh l c] at h
   have h2 := filL_ok hh l [] (by rw [h]); rw [filL_of hh l [] h2] at h; exact ⟨(mayE_iff l).1 c, c2, h2, (congrArg Prod.fst h).symm⟩
  ·rw [if_pos c2] at h
   exact absurd (congrArg Prod.snd h) c2
 ·rw [if_neg c] at h; cases h
theorem madeL_ok (mk : List Vl → List Vl × Int) : ∀ (l out : List EdP), (madeL mk out l).2 = 0 → ∀ e ∈ l, (mk e.f0).2 = 0
 | [], _, _, e, he => by cases he
 | x :: xs, out, h, e, he => by
  rw [madeL] at h
  split at h
  ·rename_i c; exact absurd h c
  ·rename_i c
   rcases List.mem_cons.1 he with rfl | he
   ·simpa using c
   ·exact madeL_ok mk xs _ h e he
theorem madeL_of (mk : List Vl → List Vl × Int) : ∀ (l out : List EdP), (∀ e ∈ l, (mk e.f0).2 = 0) → madeL mk out l = (out ++ l.map (mapE fun r => (mk r).1), 0)
 | [], out, _ => by simp [madeL]
 | x :: xs, out, h => by
  rw [madeL, if_neg (by simpa using h x List.mem_cons_self), madeL_of mk xs _ fun e he => h e (List.mem_cons_of_mem _ he), List.append_assoc]
  rfl
end Go.Proofs.YtmkgecapkeojaaaGreat.Eg
end
section
namespace Go.Proofs.YtmkgecapkeojaaaGreat.Eg
open Go.Proofs.YtmkgecapkeojaaaGreat Go.Proofs.YtmkgecapkeojaaaGreat.PDa
open Go.RowKit Go.Proofs.YtmkgecapkeojaaaGreatW.PrintWords Go.Proofs.YtmkgecapkeojaaaGreatW.PrintLast Go.Proofs.YtmkgecapkeojaaaGreatW.PrintMore
open Go.Proofs.YtmkgecapkeojaaaGreat.Stp Go.Proofs.YtmkgecapkeojaaaGreat.Run Go.Proofs.YtmkgecapkeojaaaGreat.Rw
theorem argE_parts {x : EdP} (h : argE x = false) : rowMay x.f0 = true ∧ x.f2 ≤ 1048576 ∧ -1048576 ≤ x.f2 := by
 unfold argE at h; rw [Bool.or_eq_false_iff, Bool.or_eq_false_iff] at h; obtain ⟨h1, h2, h3⟩ := h; exact ⟨by simpa using h1, by have := of_decide_eq_false h2; omega, by have := of_decide_eq_false h3; omega⟩
structure Hold2 (p : Prop) : Prop where
 out : p
end Go.Proofs.YtmkgecapkeojaaaGreat.Eg
end
section
namespace Go.Proofs.YtmkgecapkeojaaaGreat.Eg
open Go.Proofs.YtmkgecapkeojaaaGreat Go.Proofs.YtmkgecapkeojaaaGreat.PDa
open Go.RowKit Go.Proofs.YtmkgecapkeojaaaGreatW.PrintWords Go.Proofs.YtmkgecapkeojaaaGreatW.PrintLast Go.Proofs.YtmkgecapkeojaaaGreatW.PrintMore
open Go.Proofs.YtmkgecapkeojaaaGreat.Stp Go.Proofs.YtmkgecapkeojaaaGreat.Rw
theorem mapR_sub (g : List Jp → List Jp × Int) : ∀ (gs : List (List Vl × List Jp)) (out : List EdP), (∀ e ∈ (mapR g out gs).1, e ∈ out ∨ ∃ x ∈ gs, e.f0 = x.1) ∧ (out.length ≤ 4096 → (mapR g out gs).1.length ≤ 4096)
 | [], out => by rw [mapR]; exact ⟨fun e he => .inl he, fun h => h⟩
 | x :: xs, out => by
  rw [mapR]
  split
  ·exact ⟨by simp, by simp⟩
  ·split
   ·exact ⟨by simp, by simp⟩
   ·rename_i c
    obtain ⟨h1, h2⟩ := mapR_sub g xs (putP out x.1 (g x.2).1); refine ⟨fun e he => ?_, fun _ => h2 zq4⟩
    rcases h1 e he with h | ⟨y, hy, h⟩
    ·unfold putP at h
     rw [List.mem_append] at h
     rcases h with h | h
     ·exact .inl h
     ·obtain ⟨j, _, rfl⟩ := List.mem_map.1 h
      exact .inr ⟨x, List.mem_cons_self, rfl⟩
    ·exact .inr ⟨y, List.mem_cons_of_mem _ hy, h⟩
theorem normV_sub (l : List EdP) : (∀ e ∈ (normV l).1, e.f0.length ≤ 8) ∧ (normV l).1.length ≤ 4096 := by
 unfold normV
 split
 ·exact ⟨by simp, by simp⟩
 ·split
  ·exact ⟨by simp, by simp⟩
  ·rename_i h _
   obtain ⟨h1, h2⟩ := mapR_sub normJ (groups l) []; refine ⟨fun e he => ?_, h2 zq30⟩
   rcases h1 e he with h3 | ⟨x, hx, h3⟩
   ·simp at h3
   ·obtain ⟨r, hr, rfl⟩ := List.mem_map.1 hx
    obtain ⟨e', he', e1⟩ := (rowsOf_mem l r).1 hr; have ha : argE e' = false := by
     cases c : argE e' with
     | false => rfl
     | true => exact absurd (List.any_eq_true.2 ⟨e', he', c⟩) h
    have := may_len (argE_parts ha).1; rw [h3]
    show r.length ≤ 8
    rw [← e1]; exact this
theorem projD_sub (xs : List (List Op8)) (l : List EdP) : (∀ e ∈ (projD xs l).1, e.f0.length ≤ 8) ∧ (projD xs l).1.length ≤ 4096 := by
 unfold projD
 repeat' split
 all_goals first | exact normV_sub _ | exact ⟨by simp, by simp⟩
def Ans (r : List EdP × Int) (w : World) (e : Ending) (w' : World) : Prop := ∃ A c, e = .returned (.tuple #[.slice A r.1.length c, .int .i64 r.2]) ∧ Kd.C kE w' A r.1.length r.1 ∧ r.1.length ≤ c ∧ Below w.heap.size w w'
theorem filter_any (A0 : Option Addr) (c0 : Nat) (l : List EdP) (A1 : Option Addr) (c1 : Nat) (x : List Op8) (w : World) (hr0 : Kd.C kE w A0 l.length l) (hc0 : l.length ≤ c0) (hr1 : Kd.C kO w A1 x.length x) (hc1 : x.length ≤ c1) (hl : PDd.okEs l = true) (hx : PDd.okXs x = true) :
  Calls Tryz.prog 18 #[.slice A0 l.length c0, .slice A1 x.length c1] w (Ans (filterP (EvP.holdsV x) (EvP.formV x) l) w) := by
 refine (PDd.linear_Filter.calls A0 c0 l A1 c1 x _ _ w hr0 hc0 hr1 hc1 (by unfold PDd.linear_Filter.f; rw [hl, hx]; rfl)).mono ?_; rintro e w' ⟨v, rfl, hR, hb⟩; obtain ⟨A, c, rfl⟩ := Kd.R_slice hR; exact ⟨A, c, rfl, (Kd.R_reads' hR).2.2, (Kd.R_reads' hR).2.1, hb⟩
theorem project_any (A0 : Option Addr) (c0 : Nat) (l : List EdP) (A1 : Option Addr) (c1 : Nat) (x : List (List Op8)) (w : World) (hr0 : Kd.C kE w A0 l.length l) (hc0 : l.length ≤ c0) (hr1 : Kd.C (Kd.slice 68 kO) w A1 x.length x) (hc1 : x.length ≤ c1) (hl : PDd.okEs l = true) (hx : x.all PDd.okXs = true) :
  Calls Tryz.prog 21 #[.slice A0 l.length c0, .slice A1 x.length c1] w (Ans (projD x l) w) := by
 have hEO : ∀ y ∈ x, EOk y l := fun y hy => PDd.okX hl (List.all_eq_true.1 hx y hy)
 refine (PDd.linear_Project.calls A0 c0 l A1 c1 x _ _ w hr0 hc0 hr1 hc1 (by unfold PDd.linear_Project.f; rw [hl, hx, projD_is x l hEO]; rfl)).mono ?_; rintro e w' ⟨v, rfl, hR, hb⟩; obtain ⟨A, c, rfl⟩ := Kd.R_slice hR; exact ⟨A, c, rfl, (Kd.R_reads' hR).2.2, (Kd.R_reads' hR).2.1, hb⟩
end Go.Proofs.YtmkgecapkeojaaaGreat.Eg
end
