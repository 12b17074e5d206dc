/- Texts of this claim, put together by a program: Mapped, EdgeA, EdgeB, EdgeC, SortE, StabE, NilE, NormE, NormF, Build. -/
import Derived.Test.YtmkgecapkeojaaaGreatM13
import Derived.BigRegion
import Derived.RegionTactic
import Derived.ChangeAlike
import Derived.Deep.QuietTactic
import Derived.BigQuiet
set_option linter.unusedVariables false
set_option linter.unusedSimpArgs false
set_option maxHeartbeats 8000000
set_option maxRecDepth 100000
section
namespace Go.Proofs.YtmkgecapkeojaaaGreat.Eg
open Go.Proofs.YtmkgecapkeojaaaGreat Go.Proofs.YtmkgecapkeojaaaGreat.PDa
open Go.RowKit Go.Proofs.YtmkgecapkeojaaaGreatW.PrintWords Go.Proofs.YtmkgecapkeojaaaGreatW.PrintLast Go.Proofs.YtmkgecapkeojaaaGreatW.PrintMore
open Go.Proofs.YtmkgecapkeojaaaGreat.SortM Go.Proofs.YtmkgecapkeojaaaGreat.Run Go.Proofs.YtmkgecapkeojaaaGreat.Stp Go.Proofs.YtmkgecapkeojaaaGreat.Rw
attribute [local go_sem] Oper.semAt_some
theorem runAt_mem : ∀ (es : List EdP) (r : List Vl) (js : List Jp) (x : List Vl × List Jp), x ∈ runAt r js es → (x.1 = r ∨ ∃ e ∈ es, x.1 = e.f0) ∧ x.2.length ≤ js.length + es.length
 | [], r, js, x, h => by
  rw [runAt, List.mem_singleton] at h; subst h; exact ⟨.inl rfl, by simp⟩
 | e :: es, r, js, x, h => by
  rw [runAt] at h
  split at h
  ·obtain ⟨h1, h2⟩ := runAt_mem es r _ x h
   refine ⟨h1.imp id (fun ⟨e', he, hx⟩ => ⟨e', List.mem_cons_of_mem _ he, hx⟩), ?_⟩; rw [List.length_append] at h2; simp at h2 ⊢; omega
  ·rcases List.mem_cons.1 h with rfl | h
   ·exact ⟨.inl rfl, by simp⟩
   ·obtain ⟨h1, h2⟩ := runAt_mem es e.f0 _ x h
    refine ⟨.inr ?_, ?_⟩
    ·rcases h1 with h1 | ⟨e', he, hx⟩
     ·exact ⟨e, List.mem_cons_self, h1⟩
     ·exact ⟨e', List.mem_cons_of_mem _ he, hx⟩
    ·simp at h2 ⊢
     omega
theorem runs_mem (l : List EdP) (x : List Vl × List Jp) (h : x ∈ runsP l) : (∃ e ∈ l, x.1 = e.f0) ∧ x.2.length ≤ l.length := by
 cases l with
 | nil => rw [runsP] at h; cases h
 | cons e es =>
  rw [runsP] at h; obtain ⟨h1, h2⟩ := runAt_mem es e.f0 _ x h; refine ⟨?_, by simp at h2 ⊢; omega⟩
  rcases h1 with h1 | ⟨e', he, hx⟩
  ·exact ⟨e, List.mem_cons_self, h1⟩
  ·exact ⟨e', List.mem_cons_of_mem _ he, hx⟩
def mapR (g : List Jp → List Jp × Int) (out : List EdP) : List (List Vl × List Jp) → List EdP × Int
 | [] => (out, 0)
 | x :: xs => if (g x.2).2 ≠ 0 then ([], (g x.2).2) else if 4096 < (putP out x.1 (g x.2).1).length then ([], 7) else mapR g (putP out x.1 (g x.2).1) xs
def mapP (g : List Jp → List Jp × Int) (l : List EdP) : List EdP × Int := mapR g [] (runsP l)
theorem mapR_drop (g : List Jp → List Jp × Int) (out : List EdP) (l : List (List Vl × List Jp)) (k : Nat) (x : List Vl × List Jp) (h : l[k]? = some x) :
  mapR g out (l.drop k) = if (g x.2).2 ≠ 0 then ([], (g x.2).2) else if 4096 < (putP out x.1 (g x.2).1).length then ([], 7) else mapR g (putP out x.1 (g x.2).1) (l.drop (k + 1)) := by
 obtain ⟨hk, hx⟩ := List.getElem?_eq_some_iff.1 h; rw [List.drop_eq_getElem_cons hk, hx, mapR]
section
variable {α : Type} {d : Kd α}
theorem box_Rt {e t : TypeId} {B0 Bx : Nat} {W w1 : World} {v v1 : Value} {xs ys : List α} (hbx : Boxed W Bx t v) (hR : d.R e W B0 (fun _ => True) v xs) (hte : ∀ q, q ∈ e :: d.E → q ≠ t)
  (h1 : d.R e w1 B0 (fun _ => True) v1 ys) (hg : W.grownBy w1 v.ownBlock) (hat : v1.ownBlock = v.ownBlock ∨ ∃ b, v1.ownBlock = some b ∧ W.heap.size ≤ b) :
  Boxed w1 Bx t v ∧ Boxed (w1.setCell ⟨Bx, 0, none⟩ v1) Bx t v1 ∧ d.R e (w1.setCell ⟨Bx, 0, none⟩ v1) B0 (fun _ => True) v1 ys ∧ Step (OwnS Bx v) (OwnS Bx v1) W (w1.setCell ⟨Bx, 0, none⟩ v1) ∧ (∀ b, OwnS Bx v1 b → b < (w1.setCell ⟨Bx, 0, none⟩ v1).heap.size) := by
 have hb1 : Boxed w1 Bx t v := hbx.kept hg (Kd.R_ne hR hbx (hte e List.mem_cons_self)); obtain ⟨a, b, c, s, z⟩ := box_R hbx (Kd.R_mono (Kd.R_types hR hbx hte) (fun _ h => h.2)) (Kd.R_mono (Kd.R_types h1 hb1 hte) (fun _ h => h.2)) hg hat; exact ⟨a, b, Kd.R_mono c (fun _ _ => trivial), s, z⟩
theorem grown_base {e : TypeId} {B0 : Nat} {W w1 : World} {v : Value} {xs : List α} (hR : d.R e W B0 (fun _ => True) v xs) (hg : W.grownBy w1 v.ownBlock) (h0 : B0 ≤ W.heap.size) : Below B0 W w1 :=
 ⟨hg.os, hg.tape, hg.output, hg.size, fun b hb => hg.block b zq4 (fun e' => by have := (own_ltR hR e'.symm).1; omega)⟩
end
theorem mapped_calls (g : List Jp → List Jp × Int) (fn : Nat) (cap : Array Value) (A0 : Option Addr) (c0 : Nat) (l : List EdP) (w : World) (hr0 : Kd.C k41 w A0 l.length l) (hl : l.length ≤ 1000000000) (hrow : ∀ e ∈ l, e.f0.length ≤ 4398046511104)
  (hfn : ∀ args w, (callFunc fn args).run Tryz.prog w = .ok (.enter fn args) w) (hg : ∀ f, (g f).1.length ≤ 1000000000)
  (hby : ∀ (A : Option Addr) (c : Nat) (f : List Jp) (W1 : World), Below w.heap.size w W1 → f.length ≤ l.length → Kd.R kJ 85 W1 0 (fun _ => True) (.slice A f.length c) f →
   Calls Tryz.prog fn (#[.slice A f.length c] ++ cap) W1 fun e w' => ∃ v, e = .returned (.tuple #[v, .int .i64 (g f).2]) ∧ Kd.R kJ 85 w' 0 (fun _ => True) v (g f).1 ∧ Below W1.heap.size W1 w') :
  Calls Tryz.prog 107 #[.slice A0 l.length c0, .func (.func fn) #[] cap] w fun e w' => ∃ v, e = .returned (.tuple #[v, .int .i64 (mapP g l).2]) ∧ Kd.R kE tE w' w.heap.size (fun _ => True) v (mapP g l).1 ∧ Below w.heap.size w w' := by
 have RC := Lib.hid (runs_calls A0 c0 l.length); have HR := Lib.hid hr0; have HRW := Lib.hid hrow; have HL := Lib.hid hl; have HG := Lib.hid hg; have HBY := Lib.hid hby
 clear hr0 hrow hby hl hg; refine (callsIn_wide (n := 9)).1 ?_; refine callsIn_of_wp_marks Tryz.func107 rfl trivial ?_ rfl; simp only [Tryz.ntmps107, List.size_toArray, List.length_cons, List.length_nil, Nat.reduceAdd, Nat.reduceSub, Array.replicate_succ, Array.replicate_zero, List.push_toArray, List.append_toArray, List.nil_append, List.cons_append]
 gi_wp2_with (refine ⟨trivial, ?_⟩; (with_reducible refine (callsIn_wide.2 (RC.out _)).mono ?_); rintro e w1 ⟨rfl, rfl⟩)
 obtain ⟨W1, hW1⟩ : ∃ W1, ((((w.alloc (.cells #[.func (.func fn) #[] cap] 103 (0, 0))).alloc (.cells #[.slice none 0 0] 22 (0, 0))).alloc (.cells #[.int .i64 0] 27 (0, 0))).alloc (.cells #[] 41 (0, 0))).alloc (.cells #[.slice (some ⟨w.heap.size + 1 + 1 + 1, 0, none⟩) 0 0] 22 (0, 0)) = W1 := ⟨_, rfl⟩
 have hsW1 : W1.heap.size = w.heap.size + 5 := by rw [← hW1]; simp
 have hbW1 : Below w.heap.size w W1 := by rw [← hW1]; exact below_alloc (below_alloc (below_alloc (below_alloc (below_alloc (Below.refl _ w) _) _) _) _) _
 have bx3 : W1.heap[w.heap.size]? = some (.cells #[.func (.func fn) #[] cap] 103 (0, 0)) := by
  have h1 := blk_new (w) (.cells #[.func (.func fn) #[] cap] 103 (0, 0)); rw [← hW1]; exact blk_alloc (blk_alloc (blk_alloc (blk_alloc (h1) _) _) _) _
 have bx4 : W1.heap[w.heap.size + 1]? = some (.cells #[.slice none 0 0] 22 (0, 0)) := by
  have h1 := blk_new (w.alloc (.cells #[.func (.func fn) #[] cap] 103 (0, 0))) (.cells #[.slice none 0 0] 22 (0, 0)); rw [World.size_alloc] at h1; rw [← hW1]; exact blk_alloc (blk_alloc (blk_alloc (h1) _) _) _
 have bx5 : W1.heap[w.heap.size + 1 + 1]? = some (.cells #[.int .i64 0] 27 (0, 0)) := by
  have h1 := blk_new ((w.alloc (.cells #[.func (.func fn) #[] cap] 103 (0, 0))).alloc (.cells #[.slice none 0 0] 22 (0, 0))) (.cells #[.int .i64 0] 27 (0, 0)); rw [World.size_alloc, World.size_alloc] at h1; rw [← hW1]; exact blk_alloc (blk_alloc (h1) _) _
 have bk0 : W1.heap[w.heap.size + 1 + 1 + 1]? = some (.cells #[] 41 (0, 0)) := by
  have h1 := blk_new (((w.alloc (.cells #[.func (.func fn) #[] cap] 103 (0, 0))).alloc (.cells #[.slice none 0 0] 22 (0, 0))).alloc (.cells #[.int .i64 0] 27 (0, 0))) (.cells #[] 41 (0, 0)); rw [World.size_alloc, World.size_alloc, World.size_alloc] at h1; rw [← hW1]; exact blk_alloc (h1) _
 have bx6 : W1.heap[w.heap.size + 1 + 1 + 1 + 1]? = some (.cells #[.slice (some ⟨w.heap.size + 1 + 1 + 1, 0, none⟩) 0 0] 22 (0, 0)) := by
  have h1 := blk_new ((((w.alloc (.cells #[.func (.func fn) #[] cap] 103 (0, 0))).alloc (.cells #[.slice none 0 0] 22 (0, 0))).alloc (.cells #[.int .i64 0] 27 (0, 0))).alloc (.cells #[] 41 (0, 0))) (.cells #[.slice (some ⟨w.heap.size + 1 + 1 + 1, 0, none⟩) 0 0] 22 (0, 0)); rw [World.size_alloc, World.size_alloc, World.size_alloc, World.size_alloc] at h1; rw [← hW1]; exact h1
 have hit := runs_iter 8 zq4 A0 c0 l w W1 HR.out hbW1 (by have := HL.out; omega) HRW.out; obtain ⟨its, hits⟩ : ∃ x, runsP l = x := ⟨_, rfl⟩
 have HIM := Lib.hid (fun x (h : x ∈ its) => runs_mem l x (by rw [hits]; exact h)); have HE := Lib.hid (show mapP g l = mapR g [] its by unfold mapP; rw [hits]); rw [hits] at hit; have e5 : w.heap.size + 1 + 1 + 1 + 1 + 1 = W1.heap.size := by omega
 rw [hW1, e5]; obtain ⟨W2, hW2⟩ : ∃ W2, W1.alloc (.cells #[.slice A0 l.length c0] 22 (0, 0)) = W2 := ⟨_, rfl⟩
 have HS2 := Lib.hid (show W2.heap.size = w.heap.size + 6 by rw [← hW2, World.size_alloc, hsW1]); have HS1 := Lib.hid hsW1; have HB2 := Lib.hid (show Below w.heap.size w W2 by rw [← hW2]; exact below_alloc hbW1 _); have HX3 := Lib.hid (show Boxed W2 w.heap.size 103 (.func (.func fn) #[] cap) by rw [← hW2]; exact blk_alloc bx3 _); have HX4 := Lib.hid (show Boxed W2 (w.heap.size + 1) 22 (.slice none 0 0) by rw [← hW2]; exact blk_alloc bx4 _); have HX5 := Lib.hid (show Boxed W2 (w.heap.size + 1 + 1) 27 (.int .i64 0) by rw [← hW2]; exact blk_alloc bx5 _); have HX6 := Lib.hid (show Boxed W2 (w.heap.size + 1 + 1 + 1 + 1) 22 (.slice (some ⟨w.heap.size + 1 + 1 + 1, 0, none⟩) 0 0) by rw [← hW2]; exact blk_alloc bx6 _); have HO2 := Lib.hid (show Kd.R kE tE W2 w.heap.size (fun _ => True) (.slice (some ⟨w.heap.size + 1 + 1 + 1, 0, none⟩) 0 0) [] from ⟨fun _ _ => trivial, [], ⟨rfl, .inr ⟨w.heap.size + 1 + 1 + 1, 0, #[], rfl, by omega, by rw [← hW2]; exact blk_alloc bk0 _, Nat.le_refl _, Nat.zero_le _, rfl, rfl⟩⟩, Reps.none _ _⟩); rw [hW2] at hit ⊢; have HIT := Lib.hid hit; clear hW1 hW2 hsW1 hbW1 bx3 bx4 bx5 bx6 bk0 hit e5 hits; have hS0 : ∀ b, (fun b => OwnS (w.heap.size + 1 + 1 + 1 + 1) (.slice (some ⟨w.heap.size + 1 + 1 + 1, 0, none⟩) 0 0) b ∨ (b = w.heap.size + 1 ∨ b = w.heap.size + 1 + 1)) b → ¬ (b < w.heap.size ∨ b = W1.heap.size) ∧ b < W2.heap.size := by
  intro b hb; have h1 := HS1.out; have h2 := HS2.out
  rcases hb with (rfl | hb) | hb
  ·omega
  ·have : w.heap.size + 1 + 1 + 1 = b := by simpa [Value.ownBlock] using hb
   omega
  ·omega
 refine range_outer (F := Fence.wide) rfl zq4 (gf := 125) (lb := #[.pointer (some ⟨W1.heap.size, 0, none⟩)]) rfl trivial (enters_of Tryz.func125 zq17 rfl) HIT.out (Keeps.refl _ _) (fun x args W h => by obtain ⟨_, _, _, _, rfl, _⟩ := h; rfl)
  (fun k S W => ∃ v out, S = (fun b => OwnS (w.heap.size + 1 + 1 + 1 + 1) (v) b ∨ (b = w.heap.size + 1 ∨ b = w.heap.size + 1 + 1)) ∧ Boxed W w.heap.size 103 (.func (.func fn) #[] cap) ∧ Boxed W (w.heap.size + 1) 22 (.slice none 0 0) ∧ Boxed W (w.heap.size + 1 + 1) 27 (.int .i64 0) ∧
   Boxed W (w.heap.size + 1 + 1 + 1 + 1) 22 v ∧ Kd.R kE tE W w.heap.size (fun _ => True) v out ∧ Below w.heap.size w W ∧ (out.length ≤ 4096 ∧ mapR g [] its = mapR g out (its.drop k)))
  (fun c S W => c = .ret ∧ ∃ e, Boxed W (w.heap.size + 1) 22 (.slice none 0 0) ∧ Boxed W (w.heap.size + 1 + 1) 27 (.int .i64 e) ∧ Below w.heap.size w W ∧ mapR g [] its = ([], e))
  (fun x args a' W => ∃ Ar cr Aj cj, args = #[.slice Ar x.1.length cr, .slice Aj x.2.length cj] ∧ a' = { tmps := #[.slice A0 l.length c0, .func (.func fn) #[] cap, undef, .pointer (some ⟨w.heap.size, 0, none⟩), .pointer (some ⟨w.heap.size + 1, 0, none⟩), .pointer (some ⟨w.heap.size + 1 + 1, 0, none⟩), .pointer (some ⟨w.heap.size + 1 + 1 + 1 + 1, 0, none⟩), .slice Ar x.1.length cr, .slice Aj x.2.length cj, undef, undef, .slice (some ⟨w.heap.size + 1 + 1 + 1, 0, none⟩) 0 0, .slice A0 l.length c0, .func (.func 125) #[] #[.pointer (some ⟨W1.heap.size, 0, none⟩)], .slice Ar x.1.length cr, .slice Aj x.2.length cj, undef, undef, undef, undef, undef, undef, undef, undef, undef, undef, undef, undef, undef, undef, undef, undef, undef], defers := [] })
  (fun k S => Grow.ex fun v => Grow.ex fun out => (Grow.const _ _).and ((Grow.boxed _ _ _ _).and ((Grow.boxed _ _ _ _).and ((Grow.boxed _ _ _ _).and ((Grow.boxed _ _ _ _).and ((Grow.R _ _ _ _ _ _).and ((Grow.base (by have := HS2.out; omega) w (Nat.le_refl _)).and (Grow.const _ _))))))))
  (fun c S => (Grow.const _ _).and (Grow.ex fun e => (Grow.boxed _ _ _ _).and ((Grow.boxed _ _ _ _).and ((Grow.base (by have := HS2.out; omega) w (Nat.le_refl _)).and (Grow.const _ _))))) (fun x args => Grow.phi _ _ _)
  (fun x args a' => Grow.const _ _)
  (fun b => OwnS (w.heap.size + 1 + 1 + 1 + 1) (.slice (some ⟨w.heap.size + 1 + 1 + 1, 0, none⟩) 0 0) b ∨ (b = w.heap.size + 1 ∨ b = w.heap.size + 1 + 1)) hS0 ⟨_, [], rfl, HX3.out, HX4.out, HX5.out, HX6.out, HO2.out, HB2.out, Nat.zero_le _, by rw [List.drop_zero]⟩ ?assign ?body ?done ?stop
 case assign =>
  rintro l' k S x args W K hx hi ⟨Ar, cr, Aj, cj, rfl, hphi⟩ hK; clear hi hphi; gi_wp2; exact hK _ _ (Below.refl _ W) ⟨Ar, cr, Aj, cj, rfl, rfl⟩
 case body =>
  rintro l' k S x args a' W hl' ⟨r, hr⟩ hx hSb hSl hkR ⟨v, out, rfl, bx3, bx4, bx5, bx6, hRo, hBW, hout, hEE⟩ ⟨Ar, cr, Aj, cj, he1, hRr, hRj⟩ ⟨Ar2, cr2, Aj2, cj2, he2, rfl⟩; rw [he1] at he2; cases he2; dsimp only []; have hxm := HIM.out x (List.mem_of_getElem? hx); have HH := Lib.hid (mapR_drop g out its k x hx); have BY := Lib.hid (fun (w1 : World) (h : Below W.heap.size W w1) => HBY.out Aj cj x.2 w1 (hBW.trans (h.mono hBW.size)) hxm.2 (Kd.R_below hRj h)); have hrl : x.1.length ≤ 4398046511104 := by obtain ⟨e, he, hx1⟩ := hxm.1; rw [hx1]; exact HRW.out e he
  have HRL := Lib.hid hrl; have HRR := Lib.hid hRr; have HBX3 := Lib.hid bx3; have HBX4 := Lib.hid bx4; have HBX5 := Lib.hid bx5; have HBX6 := Lib.hid bx6; have HRO := Lib.hid hRo; have HBW := Lib.hid hBW; have HEE := Lib.hid hEE; have HOUT := Lib.hid hout; have HSB := Lib.hid hSb; have cl3 := bx3.cell; have cl6 := bx6.cell; clear hRr hRj bx3 bx4 bx5 bx6 hBW hEE hx he1 hSb hSl hkR hr hl' hRo hout hxm hrl; have hgl := HG.out x.2; obtain ⟨⟨gl, ge⟩, hgx⟩ : ∃ z, g x.2 = z := ⟨_, rfl⟩
  rw [hgx] at BY HH hgl; have HGL := Lib.hid (show gl.length ≤ 1000000000 from hgl); have PC := Lib.hid (fun (w4 : World) (hb4 : Below W.heap.size W w4) (Ag : Option Addr) (cg : Nat) (hRg : Kd.R kJ 85 w4 0 (fun _ => True) (.slice Ag gl.length cg) gl) => put_calls w.heap.size (fun _ => True) v out Ar cr x.1 Ag cg gl w4 (Kd.R_below HRO.out hb4) (Nat.le_trans HBW.out.size hb4.size) (fun _ _ => trivial) (Kd.R_below HRR.out hb4) hRg HRL.out (by have := HOUT.out; have := HGL.out; omega)); clear hgl hgx
  by_cases he : ge = 0
  ·have be : (ge == 0) = true := by rw [he]; rfl
   by_cases hlen : 4096 < (putP out x.1 gl).length
   ·have bl : decide (((putP out x.1 gl).length : Int) > 4096) = true := decide_eq_true zq4
    have HH2 := Lib.hid (show mapR g [] its = ([], 7) by rw [HEE.out, HH.out, if_neg (by simp [he]), if_pos hlen]); clear hlen he; gi_wp2; refine ⟨trivial, ?_⟩
    (with_reducible refine (CallsIn.inRound l' (callsIn_wide.2 (BY.out _ (Below.refl _ W)))).mono ?_)
    rintro e w4 ⟨vg, rfl, hRg, hb4⟩; obtain ⟨Ag, cg, rfl⟩ := Kd.R_slice hRg; have HRG := Lib.hid hRg; have HB4 := Lib.hid hb4; clear hRg hb4; have HQ4 := Lib.hid (Boxed.below HBX4.out HB4.out); have HQ5 := Lib.hid (Boxed.below HBX5.out HB4.out); have HQ6 := Lib.hid (Boxed.below HBX6.out HB4.out); have q6 := HQ6.out.cell; have q4 := HQ4.out.cell; have f4 := HQ4.out.frozen; have HQ5' := Lib.hid (Boxed.other HQ5.out (B' := w.heap.size + 1) zq4 (.slice none 0 0)); have q5 := HQ5'.out.cell; have f5 := HQ5'.out.frozen; have HE1 := Lib.hid (((Step.of_below (S := (fun b => OwnS (w.heap.size + 1 + 1 + 1 + 1) v b ∨ (b = w.heap.size + 1 ∨ b = w.heap.size + 1 + 1))) HB4.out).trans (step_set (.inr (.inl rfl)) (.slice none 0 0))).trans (step_set (.inr (.inr rfl)) (.int .i64 ge))); have HE1B := Lib.hid (fun b (hb : (fun b => OwnS (w.heap.size + 1 + 1 + 1 + 1) v b ∨ (b = w.heap.size + 1 ∨ b = w.heap.size + 1 + 1)) b) => Nat.lt_of_lt_of_le (HSB.out b hb) HE1.out.size); have HE14 := Lib.hid (Boxed.other (HQ4.out.set (.slice none 0 0)) (B' := w.heap.size + 1 + 1) zq4 (.int .i64 ge)); have HE15 := Lib.hid (HQ5'.out.set (.int .i64 ge)); have HE1W := Lib.hid (Below.setCell (Below.setCell (HBW.out.trans (HB4.out.mono HBW.out.size)) (p := ⟨w.heap.size + 1, 0, none⟩) zq61 (.slice none 0 0)) (p := ⟨w.heap.size + 1 + 1, 0, none⟩) zq52 (.int .i64 ge)); gi_wp2; refine ⟨trivial, ?_⟩
    (with_reducible refine (CallsIn.inRound l' (callsIn_wide.2 (PC.out _ HB4.out Ag cg HRG.out))).mono ?_)
    rintro e w5 ⟨v1, rfl, hR1, hg1, hat1⟩; obtain ⟨A1, c1, rfl⟩ := Kd.R_slice hR1; have HRo4 := Lib.hid (Kd.R_below HRO.out HB4.out); obtain ⟨z1, z2, z3, z4, z5⟩ := box_Rt HQ6.out HRo4.out zq34 hR1 hg1 hat1; have HY6 := Lib.hid z2; have HYR := Lib.hid z3; have c6a := z1.cell; have f6a := z1.frozen; have c6b := z2.cell; have HY := Lib.hid ((Step.of_below (S := (fun b => OwnS (w.heap.size + 1 + 1 + 1 + 1) v b ∨ (b = w.heap.size + 1 ∨ b = w.heap.size + 1 + 1))) HB4.out).trans (z4.wide (fun b => b = w.heap.size + 1 ∨ b = w.heap.size + 1 + 1))); have HK3 := Lib.hid ((Boxed.below HBX3.out HB4.out).kept hg1 (Kd.R_ne HRo4.out (Boxed.below HBX3.out HB4.out) zq34)); have HK4 := Lib.hid (HQ4.out.kept hg1 (Kd.R_ne HRo4.out HQ4.out zq34)); have HK5 := Lib.hid (HQ5.out.kept hg1 (Kd.R_ne HRo4.out HQ5.out zq34)); have HY3 := Lib.hid (Boxed.other HK3.out (B' := w.heap.size + 1 + 1 + 1 + 1) zq4 (.slice A1 (putP out x.1 gl).length c1)); have HY4 := Lib.hid (Boxed.other HK4.out (B' := w.heap.size + 1 + 1 + 1 + 1) zq4 (.slice A1 (putP out x.1 gl).length c1)); have HY5 := Lib.hid (Boxed.other HK5.out (B' := w.heap.size + 1 + 1 + 1 + 1) zq4 (.slice A1 (putP out x.1 gl).length c1)); have HYW := Lib.hid (Below.setCell ((HBW.out.trans (HB4.out.mono HBW.out.size)).trans (grown_base HRo4.out hg1 (Nat.le_trans HBW.out.size HB4.out.size))) (p := ⟨w.heap.size + 1 + 1 + 1 + 1, 0, none⟩) (by show _ ≤ w.heap.size + 1 + 1 + 1 + 1; omega) (.slice A1 (putP out x.1 gl).length c1)); have HYB := Lib.hid (show ∀ b, (fun b => OwnS (w.heap.size + 1 + 1 + 1 + 1) (.slice A1 (putP out x.1 gl).length c1) b ∨ (b = w.heap.size + 1 ∨ b = w.heap.size + 1 + 1)) b → b < (w5.setCell ⟨w.heap.size + 1 + 1 + 1 + 1, 0, none⟩ (.slice A1 (putP out x.1 gl).length c1)).heap.size from fun b hb => hb.elim (z5 b) (fun hb => hb.elim (fun h => h.symm ▸ HY4.out.lt) (fun h => h.symm ▸ HY5.out.lt))); have d4 := HY4.out.cell; have g4 := HY4.out.frozen; have HY5' := Lib.hid (Boxed.other HY5.out (B' := w.heap.size + 1) zq4 (.slice none 0 0)); have d5 := HY5'.out.cell; have g5 := HY5'.out.frozen; have HZS := Lib.hid ((step_set (S := (fun b => OwnS (w.heap.size + 1 + 1 + 1 + 1) (.slice A1 (putP out x.1 gl).length c1) b ∨ (b = w.heap.size + 1 ∨ b = w.heap.size + 1 + 1))) (W := w5.setCell ⟨w.heap.size + 1 + 1 + 1 + 1, 0, none⟩ (.slice A1 (putP out x.1 gl).length c1)) (.inr (.inl rfl)) (.slice none 0 0)).trans (step_set (.inr (.inr rfl)) (.int .i64 7))); have HZ := Lib.hid (HY.out.trans HZS.out); have HZB := Lib.hid (fun b (hb : (fun b => OwnS (w.heap.size + 1 + 1 + 1 + 1) (.slice A1 (putP out x.1 gl).length c1) b ∨ (b = w.heap.size + 1 ∨ b = w.heap.size + 1 + 1)) b) => Nat.lt_of_lt_of_le (HYB.out b hb) HZS.out.size); have HZ4 := Lib.hid (Boxed.other (HY4.out.set (.slice none 0 0)) (B' := w.heap.size + 1 + 1) zq4 (.int .i64 7)); have HZ5 := Lib.hid (HY5'.out.set (.int .i64 7)); have HZW := Lib.hid (Below.setCell (Below.setCell HYW.out (p := ⟨w.heap.size + 1, 0, none⟩) zq61 (.slice none 0 0)) (p := ⟨w.heap.size + 1 + 1, 0, none⟩) zq52 (.int .i64 7)); clear z1 z2 z3 z4 z5 hR1 hg1 hat1; gi_wp2; exact ⟨_, HZ.out, HZB.out, rfl, 7, HZ4.out, HZ5.out, HZW.out, HH2.out⟩
   ·have bl : decide (((putP out x.1 gl).length : Int) > 4096) = false := decide_eq_false zq4
    have HH2 := Lib.hid (show mapR g [] its = mapR g (putP out x.1 gl) (its.drop (k + 1)) by rw [HEE.out, HH.out, if_neg (by simp [he]), if_neg hlen]); have HLE := Lib.hid (show (putP out x.1 gl).length ≤ 4096 by omega); clear hlen he; gi_wp2; refine ⟨trivial, ?_⟩
    (with_reducible refine (CallsIn.inRound l' (callsIn_wide.2 (BY.out _ (Below.refl _ W)))).mono ?_)
    rintro e w4 ⟨vg, rfl, hRg, hb4⟩; obtain ⟨Ag, cg, rfl⟩ := Kd.R_slice hRg; have HRG := Lib.hid hRg; have HB4 := Lib.hid hb4; clear hRg hb4; have HQ4 := Lib.hid (Boxed.below HBX4.out HB4.out); have HQ5 := Lib.hid (Boxed.below HBX5.out HB4.out); have HQ6 := Lib.hid (Boxed.below HBX6.out HB4.out); have q6 := HQ6.out.cell; have q4 := HQ4.out.cell; have f4 := HQ4.out.frozen; have HQ5' := Lib.hid (Boxed.other HQ5.out (B' := w.heap.size + 1) zq4 (.slice none 0 0)); have q5 := HQ5'.out.cell; have f5 := HQ5'.out.frozen; have HE1 := Lib.hid (((Step.of_below (S := (fun b => OwnS (w.heap.size + 1 + 1 + 1 + 1) v b ∨ (b = w.heap.size + 1 ∨ b = w.heap.size + 1 + 1))) HB4.out).trans (step_set (.inr (.inl rfl)) (.slice none 0 0))).trans (step_set (.inr (.inr rfl)) (.int .i64 ge))); have HE1B := Lib.hid (fun b (hb : (fun b => OwnS (w.heap.size + 1 + 1 + 1 + 1) v b ∨ (b = w.heap.size + 1 ∨ b = w.heap.size + 1 + 1)) b) => Nat.lt_of_lt_of_le (HSB.out b hb) HE1.out.size); have HE14 := Lib.hid (Boxed.other (HQ4.out.set (.slice none 0 0)) (B' := w.heap.size + 1 + 1) zq4 (.int .i64 ge)); have HE15 := Lib.hid (HQ5'.out.set (.int .i64 ge)); have HE1W := Lib.hid (Below.setCell (Below.setCell (HBW.out.trans (HB4.out.mono HBW.out.size)) (p := ⟨w.heap.size + 1, 0, none⟩) zq61 (.slice none 0 0)) (p := ⟨w.heap.size + 1 + 1, 0, none⟩) zq52 (.int .i64 ge)); gi_wp2; refine ⟨trivial, ?_⟩
    (with_reducible refine (CallsIn.inRound l' (callsIn_wide.2 (PC.out _ HB4.out Ag cg HRG.out))).mono ?_)
    rintro e w5 ⟨v1, rfl, hR1, hg1, hat1⟩; obtain ⟨A1, c1, rfl⟩ := Kd.R_slice hR1; have HRo4 := Lib.hid (Kd.R_below HRO.out HB4.out); obtain ⟨z1, z2, z3, z4, z5⟩ := box_Rt HQ6.out HRo4.out zq34 hR1 hg1 hat1; have HY6 := Lib.hid z2; have HYR := Lib.hid z3; have c6a := z1.cell; have f6a := z1.frozen; have c6b := z2.cell; have HY := Lib.hid ((Step.of_below (S := (fun b => OwnS (w.heap.size + 1 + 1 + 1 + 1) v b ∨ (b = w.heap.size + 1 ∨ b = w.heap.size + 1 + 1))) HB4.out).trans (z4.wide (fun b => b = w.heap.size + 1 ∨ b = w.heap.size + 1 + 1))); have HK3 := Lib.hid ((Boxed.below HBX3.out HB4.out).kept hg1 (Kd.R_ne HRo4.out (Boxed.below HBX3.out HB4.out) zq34)); have HK4 := Lib.hid (HQ4.out.kept hg1 (Kd.R_ne HRo4.out HQ4.out zq34)); have HK5 := Lib.hid (HQ5.out.kept hg1 (Kd.R_ne HRo4.out HQ5.out zq34)); have HY3 := Lib.hid (Boxed.other HK3.out (B' := w.heap.size + 1 + 1 + 1 + 1) zq4 (.slice A1 (putP out x.1 gl).length c1)); have HY4 := Lib.hid (Boxed.other HK4.out (B' := w.heap.size + 1 + 1 + 1 + 1) zq4 (.slice A1 (putP out x.1 gl).length c1)); have HY5 := Lib.hid (Boxed.other HK5.out (B' := w.heap.size + 1 + 1 + 1 + 1) zq4 (.slice A1 (putP out x.1 gl).length c1)); have HYW := Lib.hid (Below.setCell ((HBW.out.trans (HB4.out.mono HBW.out.size)).trans (grown_base HRo4.out hg1 (Nat.le_trans HBW.out.size HB4.out.size))) (p := ⟨w.heap.size + 1 + 1 + 1 + 1, 0, none⟩) (by show _ ≤ w.heap.size + 1 + 1 + 1 + 1; omega) (.slice A1 (putP out x.1 gl).length c1)); have HYB := Lib.hid (show ∀ b, (fun b => OwnS (w.heap.size + 1 + 1 + 1 + 1) (.slice A1 (putP out x.1 gl).length c1) b ∨ (b = w.heap.size + 1 ∨ b = w.heap.size + 1 + 1)) b → b < (w5.setCell ⟨w.heap.size + 1 + 1 + 1 + 1, 0, none⟩ (.slice A1 (putP out x.1 gl).length c1)).heap.size from fun b hb => hb.elim (z5 b) (fun hb => hb.elim (fun h => h.symm ▸ HY4.out.lt) (fun h => h.symm ▸ HY5.out.lt))); have d4 := HY4.out.cell; have g4 := HY4.out.frozen; have HY5' := Lib.hid (Boxed.other HY5.out (B' := w.heap.size + 1) zq4 (.slice none 0 0)); have d5 := HY5'.out.cell; have g5 := HY5'.out.frozen; have HZS := Lib.hid ((step_set (S := (fun b => OwnS (w.heap.size + 1 + 1 + 1 + 1) (.slice A1 (putP out x.1 gl).length c1) b ∨ (b = w.heap.size + 1 ∨ b = w.heap.size + 1 + 1))) (W := w5.setCell ⟨w.heap.size + 1 + 1 + 1 + 1, 0, none⟩ (.slice A1 (putP out x.1 gl).length c1)) (.inr (.inl rfl)) (.slice none 0 0)).trans (step_set (.inr (.inr rfl)) (.int .i64 7))); have HZ := Lib.hid (HY.out.trans HZS.out); have HZB := Lib.hid (fun b (hb : (fun b => OwnS (w.heap.size + 1 + 1 + 1 + 1) (.slice A1 (putP out x.1 gl).length c1) b ∨ (b = w.heap.size + 1 ∨ b = w.heap.size + 1 + 1)) b) => Nat.lt_of_lt_of_le (HYB.out b hb) HZS.out.size); have HZ4 := Lib.hid (Boxed.other (HY4.out.set (.slice none 0 0)) (B' := w.heap.size + 1 + 1) zq4 (.int .i64 7)); have HZ5 := Lib.hid (HY5'.out.set (.int .i64 7)); have HZW := Lib.hid (Below.setCell (Below.setCell HYW.out (p := ⟨w.heap.size + 1, 0, none⟩) zq61 (.slice none 0 0)) (p := ⟨w.heap.size + 1 + 1, 0, none⟩) zq52 (.int .i64 7)); clear z1 z2 z3 z4 z5 hR1 hg1 hat1; gi_wp2; exact ⟨_, HY.out, HYB.out, _, putP out x.1 gl, rfl, HY3.out, HY4.out, HY5.out, HY6.out, HYR.out, HYW.out, HLE.out, HH2.out⟩
  ·have be : (ge == 0) = false := beq_eq_false_iff_ne.2 he
   have HH2 := Lib.hid (show mapR g [] its = ([], ge) by rw [HEE.out, HH.out, if_pos he]); clear he; gi_wp2; refine ⟨trivial, ?_⟩
   (with_reducible refine (CallsIn.inRound l' (callsIn_wide.2 (BY.out _ (Below.refl _ W)))).mono ?_)
   rintro e w4 ⟨vg, rfl, hRg, hb4⟩; obtain ⟨Ag, cg, rfl⟩ := Kd.R_slice hRg; have HRG := Lib.hid hRg; have HB4 := Lib.hid hb4; clear hRg hb4; have HQ4 := Lib.hid (Boxed.below HBX4.out HB4.out); have HQ5 := Lib.hid (Boxed.below HBX5.out HB4.out); have HQ6 := Lib.hid (Boxed.below HBX6.out HB4.out); have q6 := HQ6.out.cell; have q4 := HQ4.out.cell; have f4 := HQ4.out.frozen; have HQ5' := Lib.hid (Boxed.other HQ5.out (B' := w.heap.size + 1) zq4 (.slice none 0 0)); have q5 := HQ5'.out.cell; have f5 := HQ5'.out.frozen; have HE1 := Lib.hid (((Step.of_below (S := (fun b => OwnS (w.heap.size + 1 + 1 + 1 + 1) v b ∨ (b = w.heap.size + 1 ∨ b = w.heap.size + 1 + 1))) HB4.out).trans (step_set (.inr (.inl rfl)) (.slice none 0 0))).trans (step_set (.inr (.inr rfl)) (.int .i64 ge))); have HE1B := Lib.hid (fun b (hb : (fun b => OwnS (w.heap.size + 1 + 1 + 1 + 1) v b ∨ (b = w.heap.size + 1 ∨ b = w.heap.size + 1 + 1)) b) => Nat.lt_of_lt_of_le (HSB.out b hb) HE1.out.size); have HE14 := Lib.hid (Boxed.other (HQ4.out.set (.slice none 0 0)) (B' := w.heap.size + 1 + 1) zq4 (.int .i64 ge)); have HE15 := Lib.hid (HQ5'.out.set (.int .i64 ge)); have HE1W := Lib.hid (Below.setCell (Below.setCell (HBW.out.trans (HB4.out.mono HBW.out.size)) (p := ⟨w.heap.size + 1, 0, none⟩) zq61 (.slice none 0 0)) (p := ⟨w.heap.size + 1 + 1, 0, none⟩) zq52 (.int .i64 ge)); gi_wp2; exact ⟨_, HE1.out, HE1B.out, rfl, ge, HE14.out, HE15.out, HE1W.out, HH2.out⟩
 case done =>
  rintro D S W hD hSD hst hsb ⟨v, out, rfl, bx3, bx4, bx5, bx6, hRo, hBW, hout, hEE⟩ hK; obtain ⟨Av, cv, rfl⟩ := Kd.R_slice hRo; rw [List.drop_length] at hEE; have hE : mapP g l = (out, 0) := by rw [HE.out, hEE]; rfl
  have HEt := Lib.hid hE; have hD4 : D ≠ w.heap.size + 1 := by have := HS2.out; omega
  have hD5 : D ≠ w.heap.size + 1 + 1 := by have := HS2.out; omega
  have HD := Lib.hid (show w.heap.size ≤ D by have := HS2.out; omega); have cl6 := bx6.cell; have cl4 := bx4.cell; have fr4 := bx4.frozen; have HB4 := Lib.hid (Boxed.other (bx4.set (.slice Av out.length cv)) (B' := w.heap.size + 1 + 1) zq4 (.int .i64 0)); have hb5 := Boxed.other bx5 (B' := w.heap.size + 1) zq4 (.slice Av out.length cv); have cl5 := hb5.cell; have fr5 := hb5.frozen; have HB5 := Lib.hid (hb5.set (.int .i64 0)); have HK2 := Lib.hid (show ((W.setCell ⟨w.heap.size + 1, 0, none⟩ (.slice Av out.length cv)).setCell ⟨w.heap.size + 1 + 1, 0, none⟩ (.int .i64 0)).heap[D]? = some (.deferred (some [])) from ((Below.heap_setCell _ ⟨w.heap.size + 1 + 1, 0, none⟩ (.int .i64 0) D hD5).trans (Below.heap_setCell W ⟨w.heap.size + 1, 0, none⟩ (.slice Av out.length cv) D hD4)).trans hK); have HBY := Lib.hid (Below.setCell (Below.setCell hBW (p := ⟨w.heap.size + 1, 0, none⟩) zq61 (.slice Av out.length cv)) (p := ⟨w.heap.size + 1 + 1, 0, none⟩) zq52 (.int .i64 0)); have HRZ := Lib.hid ((Grow.R D tE w.heap.size (fun _ => True) (.slice Av out.length cv) out).put (.deferred none) (Kd.R_set (Kd.R_set hRo bx4 zq34 0 (.slice Av out.length cv)) hb5 zq34 0 (.int .i64 0)) (Nat.le_refl D) HK2.out rfl); clear hst hsb hSD bx3 bx4 bx5 bx6 hb5 hRo hBW hEE hK hE; gi_wp2; refine ⟨by simp, .inl ⟨_, _, rfl, run_takeDeferred HK2.out, ?_⟩⟩; refine ⟨_, results_c2 rfl _ _ _ rfl (Boxed.cell (put_boxed HB4.out hD4.symm _)) (oneC_slice (show Tryz.prog.underlying 22 = some (.slice 41) by kernel_rfl)) rfl (Boxed.cell (put_boxed HB5.out hD5.symm _)) (oneC_int Tryz.underlying27), _, by rw [HEt.out], ?_, below_put (Nat.le_refl _) _ HBY.out HD.out⟩; rw [HEt.out]; exact HRZ.out
 case stop =>
  rintro D c S W hD hSD hst hsb ⟨rfl, e, bx4, bx5, hBW, hEE⟩ hK; have hE : mapP g l = ([], e) := by rw [HE.out, hEE]
  have HEt := Lib.hid hE; have hD4 : D ≠ w.heap.size + 1 := by have := HS2.out; omega
  have hD5 : D ≠ w.heap.size + 1 + 1 := by have := HS2.out; omega
  have HD := Lib.hid (show w.heap.size ≤ D by have := HS2.out; omega); have HB4 := Lib.hid bx4; have HB5 := Lib.hid bx5; have HBY := Lib.hid hBW; have HK2 := Lib.hid hK; clear hK hE bx4 bx5 hBW hEE hst hsb hSD; gi_wp2; refine ⟨by simp, .inl ⟨_, _, rfl, run_takeDeferred HK2.out, ?_⟩⟩; refine ⟨_, results_c2 rfl _ _ _ rfl (Boxed.cell (put_boxed HB4.out hD4.symm _)) (oneC_slice (show Tryz.prog.underlying 22 = some (.slice 41) by kernel_rfl)) rfl (Boxed.cell (put_boxed HB5.out hD5.symm _)) (oneC_int Tryz.underlying27), _, by rw [HEt.out], ?_, below_put (Nat.le_refl _) _ HBY.out HD.out⟩; rw [HEt.out]; exact Kd.R_nil _ _ _ _ _
abbrev Ed := S41
def orI (a b : Int) : Int := if a ≠ 0 then a else b
theorem or_calls (ad : Nat) (a b : Int) (c : Nat) (w : World) (h0 : w.cell? ⟨ad, 0, none⟩ = some (.int .i64 a)) (h1 : w.cell? ⟨ad, 1, none⟩ = some (.int .i64 b)) :
  Calls Tryz.prog 105 #[.slice (some ⟨ad, 0, none⟩) 2 c] w fun e w' => e = .returned (.int .i64 (orI a b)) ∧ Below w.heap.size w w' := by
 have H0 := Lib.hid h0; have H1 := Lib.hid h1; have HB := Lib.hid (Below.refl w.heap.size w); clear h0 h1; obtain ⟨r, hr⟩ : ∃ r, orI a b = r := ⟨_, rfl⟩
 rw [hr]; have HR := Lib.hid hr; clear hr; go_enter Tryz.func105, Tryz.ntmps105; go_wp2
 go_loopw [8] (fun v8 wr => ∃ i : Nat, i ≤ 2 ∧ v8 = .int .i64 (i : Int) ∧ Aside0 (0 < i → a = 0) ∧ Aside0 (1 < i → b = 0) ∧ Aside0 (Below w.heap.size w wr)) (fun v8 wr => 2 - (intOf v8).toNat)
 case atStart => exact ⟨0, by omega, rfl, ⟨by omega⟩, ⟨by omega⟩, ⟨HB.out⟩⟩
 case round =>
  obtain ⟨i, hi, rfl, HI0, HI1, HBr⟩ := hrel
  match i with
  | 0 =>
   have x0 := pw_cell_below HBr.out H0.out
   by_cases ha : a = 0
   ·subst ha
    go_wp2; go_roundw
    case rel => exact ⟨1, by omega, rfl, ⟨by simp⟩, ⟨by omega⟩, ⟨HBr.out⟩⟩
    case measure => simp [intOf]
   ·have b1 : (a == 0) = false := beq_eq_false_iff_ne.2 ha
    have HRR := Lib.hid (show a = r by rw [← HR.out, orI, if_pos ha]); go_wp2; go_ret; exact ⟨by rw [← HRR.out]; rfl, HBr.out⟩
  | 1 =>
   have x0 := pw_cell_below HBr.out H1.out; have ha := HI0.out zq4; have HRR := Lib.hid (show b = r by rw [← HR.out, orI, if_neg zq4])
   by_cases hb : b = 0
   ·subst hb
    go_wp2; go_roundw
    case rel => exact ⟨2, by omega, rfl, ⟨fun _ => ha⟩, ⟨by simp⟩, ⟨HBr.out⟩⟩
    case measure => simp [intOf]
   ·have b1 : (b == 0) = false := beq_eq_false_iff_ne.2 hb
    go_wp2; go_ret; exact ⟨by rw [← HRR.out]; rfl, HBr.out⟩
  | 2 =>
   have HRR := Lib.hid (show (0 : Int) = r by rw [← HR.out, orI, HI0.out zq4, HI1.out zq4]; rfl); go_wp2; go_ret; exact ⟨by rw [← HRR.out]; rfl, HBr.out⟩
def norm3.T1 : Bool × List (List Nat × List Nat) := (true, [([], []), ([0], [0]), ([], []), ([2], [2]), ([1, 3], [1, 3]), ([], []), ([5], [5]), ([], []), ([7], [7]), ([6, 8, 4], [6, 8]), ([4, 9], [4, 9]), ([10, 9], [10]), ([11, 11, 0, 1, 2, 3, 4, 5, 6, 7, 8, 9, 10, 11], [11])])
def norm3.B1 : List Nat := [0, 1, 0, 4, 15, 0, 32, 0, 128, 511, 1023, 2047, 4095]
theorem norm3.tab1 : rtab .any (opsOf Tryz.f104 1) = norm3.T1 := by kernel_rfl
theorem norm3.bits1 : waitsOk norm3.T1.2 norm3.B1 = true := by kernel_rfl
theorem norm3_calls (x y : Ed) (A0 B0 : Option Addr) (c0 d0 : Nat) (w : World) (hr0 : Kd.C kV w A0 x.f0.length x.f0) (hr1 : Kd.C kV w B0 y.f0.length y.f0) (hc0 : x.f0.length ≤ c0) (hd0 : y.f0.length ≤ d0) :
  Calls Tryz.prog 104 #[.agg #[.slice A0 x.f0.length c0, .int .i64 x.f1, .int .i64 x.f2], .agg #[.slice B0 y.f0.length d0, .int .i64 y.f1, .int .i64 y.f2]] w fun e w' => e = .returned (.int .i64 (orI (cmpR x.f0 y.f0) (Cmp.icmp x.f1 y.f1))) ∧ Below w.heap.size w w' := by
 have hu := Tryz.underlying41; have HA := Lib.hid hr0; have HBb := Lib.hid hr1; have HB := Lib.hid (below_alloc (below_alloc (Below.refl _ w) (.cells #[.slice A0 x.f0.length c0, .int .i64 x.f1, .int .i64 x.f2] 41 (0, 0))) (.cells #[.slice B0 y.f0.length d0, .int .i64 y.f1, .int .i64 y.f2] 41 (0, 0))); have C1 := Lib.hid (fun (w1 : World) (h : Below w.heap.size w w1) => compare_calls A0 B0 c0 d0 x.f0 y.f0 w1 (Kd.C_below HA.out h) (Kd.C_below HBb.out h) hc0 hd0); have C2 := Lib.hid (fun w1 => cmp_Compare_int.calls x.f1 y.f1 _ w1 (compare_f x.f1 y.f1)); clear hr0 hr1; go_enter Tryz.func104, Tryz.ntmps104; go_wp2; generalize hws : (w.alloc (.cells #[.slice A0 x.f0.length c0, .int .i64 x.f1, .int .i64 x.f2] 41 (0, 0))).alloc (.cells #[.slice B0 y.f0.length d0, .int .i64 y.f1, .int .i64 y.f2] 41 (0, 0)) = ws; have HBS := Lib.hid (show Below w.heap.size w ws by rw [← hws]; exact HB.out); have k0 : ws.heap[w.heap.size]? = some (.cells #[.slice A0 x.f0.length c0, .int .i64 x.f1, .int .i64 x.f2] 41 (0, 0)) := by rw [← hws]; exact blk_below (blk_new w _) (below_alloc (Below.refl _ _) _)
 have k1 : ws.heap[w.heap.size + 1]? = some (.cells #[.slice B0 y.f0.length d0, .int .i64 y.f1, .int .i64 y.f2] 41 (0, 0)) := by rw [← hws]; have := blk_new (w.alloc (.cells #[.slice A0 x.f0.length c0, .int .i64 x.f1, .int .i64 x.f2] 41 (0, 0))) (.cells #[.slice B0 y.f0.length d0, .int .i64 y.f1, .int .i64 y.f2] 41 (0, 0)); rwa [World.size_alloc] at this
 clear hws; have K0 := Lib.hid k0; have K1 := Lib.hid k1; have x0 := (blk_cell k0 0).trans (show _ = some (.slice A0 x.f0.length c0) from rfl); have x1 := (blk_cell k0 1).trans (show _ = some (.int .i64 x.f1) from rfl); have y0 := (blk_cell k1 0).trans (show _ = some (.slice B0 y.f0.length d0) from rfl); have y1 := (blk_cell k1 1).trans (show _ = some (.int .i64 y.f1) from rfl); clear k0 k1; have x0d : ws.drew.cell? ⟨w.heap.size, 0, none⟩ = some (.slice A0 x.f0.length c0) := x0; have x1d : ws.drew.cell? ⟨w.heap.size, 1, none⟩ = some (.int .i64 x.f1) := x1; have y0d : ws.drew.cell? ⟨w.heap.size + 1, 0, none⟩ = some (.slice B0 y.f0.length d0) := y0; have y1d : ws.drew.cell? ⟨w.heap.size + 1, 1, none⟩ = some (.int .i64 y.f1) := y1; have HBD := Lib.hid (below_drew1 HBS.out); clear x0 x1 y0 y1 HBS K0 K1; refine start_ (n := 13) (S := fun w' => w'.cell? ⟨w.heap.size, 0, none⟩ = some (.slice A0 x.f0.length c0) ∧ w'.cell? ⟨w.heap.size, 1, none⟩ = some (.int .i64 x.f1) ∧ w'.cell? ⟨w.heap.size + 1, 0, none⟩ = some (.slice B0 y.f0.length d0) ∧ w'.cell? ⟨w.heap.size + 1, 1, none⟩ = some (.int .i64 y.f1)) (ds := [9, 10, 11]) #[false, false, false, false, false, false, false, false, false, false, false, false, false] zq17 rfl rfl ⟨x0d, x1d, y0d, y1d⟩ (fun hHeld => ?_); refine with_tabW norm3.tab1 norm3.bits1 (fun HT_ HW_ => ?_); refine pZ 0 5 ?_; refine pZ 2 7 ?_; refine pZ 5 10 ?_; refine pZ 7 12 ?_; refine tZ4 1 6 ?_; refine tZ4 3 8 ?_; refine tZ4 6 11 ?_; refine tZ4 8 13 ?_; refine oZ 4 9 (fun K hK => ?_); refine goes_ Tryz.func94 zq17 rfl #[.slice A0 x.f0.length c0, .slice B0 y.f0.length d0] (by rfl) rfl rfl zq67 ?_
 with_reducible refine (C1.out _ HBD.out).mono ?_
 rintro e w3 ⟨rfl, hb3⟩; refine ⟨_, rfl, ?_⟩; have G3 := Lib.hid hb3; clear hb3; refine hK.out _ _ ⟨pw_cell_below G3.out x0d, pw_cell_below G3.out x1d, pw_cell_below G3.out y0d, pw_cell_below G3.out y1d⟩ (fun hHeld => ?_); clear hK K; refine nZ 9 ?_; refine last_ (i := 9) (N := some 14) #[true, true, true, true, true, true, true, true, true, true, false, false, false] rfl rfl (one_of HT_.out zq17) zq34 (fun K hK => ?_); refine goes_ Tryz.func106 zq17 rfl #[.int .i64 x.f1, .int .i64 y.f1] (by rfl) rfl rfl zq67 ?_
 with_reducible refine (C2.out _).mono ?_
 rintro e w4 ⟨rfl, hb4⟩; refine ⟨_, rfl, ?_⟩; have H4 := Lib.hid (show Below w.heap.size w w4 from (HBD.out.trans (G3.out.mono HBD.out.size)).trans (hb4.below.mono (Nat.le_trans HBD.out.size G3.out.size))); clear hb4; refine hK.out _ _ ?_; clear hK K; refine nZ 14 ?_; refine last_ (i := 10) (N := some 15) #[true, true, true, true, true, true, true, true, true, true, true, false, false] rfl rfl (one_of HT_.out zq17) zq34 (fun K hK => ?_); refine value_ (w1 := ?_) (v := ?_) (by rfl) rfl ?_ ?_; rotate_left 2
 ·go_simp
  constructor
  ·rfl
  ·rfl
 refine hK.out _ _ ?_; clear hK K; refine nZ 15 ?_; refine last_ (i := 11) (N := some 16) #[true, true, true, true, true, true, true, true, true, true, true, true, false] rfl rfl (one_of HT_.out zq17) zq34 (fun K hK => ?_); refine goes_ Tryz.func105 zq17 rfl #[.slice (some ⟨w4.heap.size, 0, none⟩) 2 2] (by rfl) rfl rfl zq67 ?_
 with_reducible refine (or_calls w4.heap.size (cmpR x.f0 y.f0) (Cmp.icmp x.f1 y.f1) 2 _ ((blk_cell (blk_new w4 _) 0).trans rfl) ((blk_cell (blk_new w4 _) 1).trans rfl)).mono ?_
 rintro e w5 ⟨rfl, hb5⟩; refine ⟨_, rfl, ?_⟩; have H5 := Lib.hid ((below_alloc H4.out (.cells #[.int .i64 (cmpR x.f0 y.f0), .int .i64 (Cmp.icmp x.f1 y.f1)] 3 (0, 0))).trans (hb5.mono (by rw [World.size_alloc]; exact Nat.le_succ_of_le H4.out.size))); clear hb5; refine hK.out _ _ ?_; clear hK K; refine nZ 16 ?_; refine pZ 12 4 ?_; refine done_ (done_of HT_.out zq17) ?_; go_wp2; go_ret; exact ⟨rfl, H5.out⟩
theorem norm2_calls (x : S41) (A0 : Option Addr) (c0 : Nat) (w : World) : Calls Tryz.prog 101 #[.agg #[.slice A0 x.f0.length c0, .int .i64 x.f1, .int .i64 x.f2]] w fun e w' => e = .returned (.bool (timeB x.f1)) ∧ Below w.heap.size w w' := by
 have hu := Tryz.underlying41; have HB := Lib.hid (below_alloc (Below.refl _ w) (.cells #[.slice A0 x.f0.length c0, .int .i64 x.f1, .int .i64 x.f2] 41 (0, 0)))
 by_cases h : x.f1 < -1
 ·have e : timeB x.f1 = true := by unfold timeB; simp [h]
  have b1 : decide (x.f1 < -1) = true := decide_eq_true h; rw [e]; clear h e; go_enter Tryz.func101, Tryz.ntmps101; go_wp2; go_ret; exact ⟨rfl, HB.out⟩
 ·have b1 : decide (x.f1 < -1) = false := decide_eq_false h
  obtain ⟨b, hb⟩ : ∃ b, decide (x.f1 > 1125899906842624) = b := ⟨_, rfl⟩
  have e : timeB x.f1 = b := by unfold timeB; rw [b1, Bool.false_or]; exact hb
  rw [e]; clear h e; cases b
  all_goals
   go_enter Tryz.func101, Tryz.ntmps101; go_wp2; go_ret; exact ⟨rfl, HB.out⟩
def argE (x : S41) : Bool := !(rowMay x.f0) || (decide (x.f2 > 1048576) || decide (x.f2 < -1048576))
theorem norm1_calls (x : S41) (A0 : Option Addr) (c0 : Nat) (w : World) (hr0 : Kd.C kV w A0 x.f0.length x.f0) (hc0 : x.f0.length ≤ c0) : Calls Tryz.prog 100 #[.agg #[.slice A0 x.f0.length c0, .int .i64 x.f1, .int .i64 x.f2]] w fun e w' => e = .returned (.bool (argE x)) ∧ Below w.heap.size w w' := by
 have hu := Tryz.underlying41; have HA := Lib.hid hr0; have HB := Lib.hid (below_alloc (Below.refl _ w) (.cells #[.slice A0 x.f0.length c0, .int .i64 x.f1, .int .i64 x.f2] 41 (0, 0))); have M := Lib.hid (fun (w1 : World) (h : Below w.heap.size w w1) => row_May.calls A0 c0 x.f0 (rowMay x.f0) w1 (Kd.C_below HA.out h) hc0 rfl); have HN := Lib.hid (blk_new w (.cells #[.slice A0 x.f0.length c0, .int .i64 x.f1, .int .i64 x.f2] 41 (0, 0))); clear hr0; cases hm : rowMay x.f0 with
 | false =>
  have e : argE x = true := by unfold argE; rw [hm]; rfl
  rw [e]; rw [hm] at M; clear hm e; go_enter Tryz.func100, Tryz.ntmps100
  go_wp2_with (go_at_call 77; (with_reducible refine (M.out _ HB.out).mono ?_); rintro e w1 ⟨rfl, hb1⟩; have HB2 := Lib.hid (HB.out.trans (hb1.mono HB.out.size)); have HX := Lib.hid (blk_below HN.out hb1); have c2 := (blk_cell HX.out 2).trans (show _ = some (.int .i64 x.f2) from rfl); clear hb1)
  go_ret; exact ⟨rfl, HB2.out⟩
 | true =>
  rw [hm] at M
  by_cases h : x.f2 > 1048576
  ·have e : argE x = true := by unfold argE; rw [hm]; simp [h]
   have b1 : decide (x.f2 > 1048576) = true := decide_eq_true h; rw [e]; clear hm e; go_enter Tryz.func100, Tryz.ntmps100
   go_wp2_with (go_at_call 77; (with_reducible refine (M.out _ HB.out).mono ?_); rintro e w1 ⟨rfl, hb1⟩; have HB2 := Lib.hid (HB.out.trans (hb1.mono HB.out.size)); have HX := Lib.hid (blk_below HN.out hb1); have c2 := (blk_cell HX.out 2).trans (show _ = some (.int .i64 x.f2) from rfl); clear hb1)
   go_ret; exact ⟨rfl, HB2.out⟩
  ·have b1 : decide (x.f2 > 1048576) = false := decide_eq_false h
   obtain ⟨b, hb⟩ : ∃ b, decide (x.f2 < -1048576) = b := ⟨_, rfl⟩
   have e : argE x = b := by unfold argE; rw [hm, b1, hb]; rfl
   rw [e]; clear hm h e; cases b
   all_goals
    go_enter Tryz.func100, Tryz.ntmps100
    go_wp2_with (go_at_call 77; (with_reducible refine (M.out _ HB.out).mono ?_); rintro e w1 ⟨rfl, hb1⟩; have HB2 := Lib.hid (HB.out.trans (hb1.mono HB.out.size)); have HX := Lib.hid (blk_below HN.out hb1); have c2 := (blk_cell HX.out 2).trans (show _ = some (.int .i64 x.f2) from rfl); clear hb1)
    go_ret; exact ⟨rfl, HB2.out⟩
theorem ix_edge (p : S41 → Bool) (fn : Nat) (A0 : Option Addr) (c0 : Nat) (l : List S41) (w : World)
  (hp : ∀ (x : S41) (A : Option Addr) (c : Nat) (w1 : World), x ∈ l → Below w.heap.size w w1 → Kd.C kV w1 A x.f0.length x.f0 → x.f0.length ≤ c → Calls Tryz.prog fn #[.agg #[.slice A x.f0.length c, .int .i64 x.f1, .int .i64 x.f2]] w1 fun e w' => e = .returned (.bool (p x)) ∧ Below w1.heap.size w1 w')
  (hfn : ∀ args w, (callFunc fn args).run Tryz.prog w = .ok (.enter fn args) w) (hr0 : Kd.C k41 w A0 l.length l) (hl : l.length ≤ 17592186044416) :
  Calls Tryz.prog 146 #[.slice A0 l.length c0, .func (Fn.func fn) #[] #[]] w fun e w' => (∃ r : Int, e = .returned (.int .i64 r) ∧ decide (0 ≤ r) = l.any p) ∧ Below w.heap.size w w' := by
 have HR := Aside0.mk hr0; have HP := Lib.hid hp; clear hr0 hp; go_enter Tryz.func146, Tryz.ntmps146; go_wp2
 go_loopw [8] (fun v8 wr => ∃ k : Nat, k ≤ l.length ∧ v8 = .int .i64 (k : Int) ∧ Aside0 (∀ x ∈ l.take k, p x = false) ∧ Aside0 (Below w.heap.size w wr)) (fun v8 wr => l.length - (intOf v8).toNat)
 case atStart => exact ⟨0, by omega, rfl, ⟨by simp⟩, ⟨Below.refl _ _⟩⟩
 case round =>
  obtain ⟨k, hk, rfl, HN, HB⟩ := hrel
  by_cases c : k < l.length
  ·obtain ⟨X, hX⟩ : ∃ X, l[k] = X := ⟨_, rfl⟩
   obtain ⟨ad, Ax, cx, e1, hx0, hx1, hx2, hx3, hx4⟩ := at_T41 (Kd.C_below HR.out HB.out) (k : Int) zq4 zq4; have hrd : rd_T41 l (k : Int) = X := by
    unfold rd_T41; rw [Int.toNat_natCast, List.getD_eq_getElem?_getD, List.getElem?_eq_getElem c]; exact hX
   rw [Int.toNat_natCast, hrd] at hx0 hx1 hx2; rw [hrd] at hx3 hx4; clear hrd; cases e1; have P := Lib.hid (fun (w1 : World) (hb : Below wr.heap.size wr w1) => HP.out X Ax cx w1 (by rw [← hX]; exact List.getElem_mem c) (HB.out.trans (hb.mono HB.out.size)) (Kd.C_below hx4 hb) hx3); have HX := Lib.hid hX; clear hX; cases hpx : p X
   ·have P2 := Lib.hid (fun w1 hb => by have := P.out w1 hb; rw [hpx] at this; exact this)
    have HPX := Lib.hid hpx; clear P hpx
    go_wp2_with ((with_reducible refine (P2.out _ (Below.refl _ _)).mono ?_); rintro e w' ⟨rfl, hb⟩)
    go_roundw
    case rel =>
     refine ⟨k + 1, by omega, by go_num, ⟨fun x hx => ?_⟩, ⟨HB.out.trans (hb.mono HB.out.size)⟩⟩; have hx' := (ix_mem_take l k c x).1 hx; cases hx' with
     | inl h => exact HN.out x h
     | inr h => rw [h, HX]; exact HPX
    case measure => simp [intOf]; omega
   ·have P2 := Lib.hid (fun w1 hb => by have := P.out w1 hb; rw [hpx] at this; exact this)
    have hany : l.any p = true := by
     rw [List.any_eq_true]; exact ⟨X, by rw [← HX.out]; exact List.getElem_mem c, hpx⟩
    have HANY := Lib.hid hany; clear P hpx hany
    go_wp2_with ((with_reducible refine (P2.out _ (Below.refl _ _)).mono ?_); rintro e w' ⟨rfl, hb⟩)
    go_ret; exact ⟨⟨k, rfl, by rw [HANY.out]; simp⟩, HB.out.trans (hb.mono HB.out.size)⟩
  ·obtain rfl : k = l.length := by omega
   have hany : l.any p = false := by
    rw [List.any_eq_false]; intro x hx; have := HN.out x (by rw [List.take_length]; exact hx); simp [this]
   have HANY := Lib.hid hany; clear hany; go_wp2; go_ret; exact ⟨⟨-1, rfl, by rw [HANY.out]; rfl⟩, HB.out⟩
theorem has_edge (p : S41 → Bool) (fn : Nat) (A0 : Option Addr) (c0 : Nat) (l : List S41) (w : World)
  (hp : ∀ (x : S41) (A : Option Addr) (c : Nat) (w1 : World), x ∈ l → Below w.heap.size w w1 → Kd.C kV w1 A x.f0.length x.f0 → x.f0.length ≤ c → Calls Tryz.prog fn #[.agg #[.slice A x.f0.length c, .int .i64 x.f1, .int .i64 x.f2]] w1 fun e w' => e = .returned (.bool (p x)) ∧ Below w1.heap.size w1 w')
  (hfn : ∀ args w, (callFunc fn args).run Tryz.prog w = .ok (.enter fn args) w) (hr0 : Kd.C k41 w A0 l.length l) (hl : l.length ≤ 17592186044416) :
  Calls Tryz.prog 99 #[.slice A0 l.length c0, .func (Fn.func fn) #[] #[]] w fun e w' => e = .returned (.bool (l.any p)) ∧ Below w.heap.size w w' := by
 have C := Lib.hid (ix_edge p fn A0 c0 l w hp hfn hr0 hl); obtain ⟨b, hb⟩ : ∃ b, l.any p = b := ⟨_, rfl⟩
 rw [hb] at C ⊢; clear hp hfn hr0 hl hb; go_enter Tryz.func99, Tryz.ntmps99
 go_wp2_with (go_at_call 146; ((with_reducible refine C.out.mono ?_); rintro e w' ⟨⟨r, rfl, hr⟩, hb⟩; have HRR := Lib.hid hr; clear hr))
 go_ret; exact ⟨by rw [← HRR.out]; rfl, hb⟩
end Go.Proofs.YtmkgecapkeojaaaGreat.Eg
end
section
namespace Go.Proofs.YtmkgecapkeojaaaGreat.SortE
open Go Go.RowKit Go.Proofs.YtmkgecapkeojaaaGreatW.PrintWords Go.Proofs.YtmkgecapkeojaaaGreatW.PrintLast Go.Proofs.YtmkgecapkeojaaaGreatW.PrintMore
open Go.Proofs.YtmkgecapkeojaaaGreat.Run Go.Proofs.YtmkgecapkeojaaaGreat.SortP Go.Proofs.YtmkgecapkeojaaaGreat.SortM Go.Proofs.YtmkgecapkeojaaaGreat.PDa
structure El where
 A : Option Addr
 c : Nat
 row : List S65
 at' : Int
 net : Int
def enc (x : El) : List Value := [.slice x.A x.row.length x.c, .int .i64 x.at', .int .i64 x.net]
theorem enc_len (x : El) : (enc x).length = 3 := rfl
theorem insertion_calls (cf : El → El → Int) (o : Ord cf) (OK : El → Prop) (blk cap n : Nat) (g : Nat → El) (fn : Nat) (a b : Nat) (w : World) (hH : Holds enc 3 w blk 41 n g) (hok : ∀ i, i < n → OK (g i)) (hab : a ≤ b) (hb : b ≤ n) (hn : n ≤ 17592186044416)
  (hfn : ∀ args w, (callFunc fn args).run Tryz.prog w = .ok (.enter fn args) w) (hcmp : ∀ (x y : El) (w1 : World), OK x → OK y → Step (OnlyB blk) (OnlyB blk) w w1 → Calls Tryz.prog fn #[.agg #[.slice x.A x.row.length x.c, .int .i64 x.at', .int .i64 x.net], .agg #[.slice y.A y.row.length y.c, .int .i64 y.at', .int .i64 y.net]] w1 fun e w' => e = .returned (.int .i64 (cf x y)) ∧ Below w1.heap.size w1 w') :
  Calls Tryz.prog 166 #[.slice (some ⟨blk, 0, none⟩) n cap, .int .i64 (a : Int), .int .i64 (b : Int), .func (.func fn) #[] #[]] w fun e w' =>
   e = .returned (.tuple #[]) ∧ ∃ g', Holds enc 3 w' blk 41 n g' ∧ Up cf g' a b ∧ SameOn g g' a b ∧ Step (OnlyB blk) (OnlyB blk) w w' ∧ (row g' n).Perm (row g n) := by
 have HH := Lib.hid hH; have HOK := Lib.hid hok; have HC := Lib.hid hcmp; clear hH hok hcmp; go_enter Tryz.func166, Tryz.ntmps166; go_wp2
 go_loopw [8] (fun v8 wr => ∃ (i : Nat) (g' : Nat → El), a < i ∧ i ≤ b + 1 ∧ v8 = .int .i64 (i : Int) ∧ Aside0 (Up cf g' a i ∨ b ≤ a) ∧ Aside0 (SameOn g g' a b) ∧ Aside0 (Holds enc 3 wr blk 41 n g') ∧ Aside0 (Step (OnlyB blk) (OnlyB blk) w wr) ∧ Aside0 ((row g' n).Perm (row g n))) (fun v8 wr => b + 1 - (intOf v8).toNat)
 case atStart => exact ⟨a + 1, g, by omega, by omega, by go_num, ⟨.inl (Up.one cf g a (a + 1) zq4)⟩, ⟨SameOn.refl g a b⟩, ⟨HH.out⟩, ⟨Step.refl _ _⟩, ⟨List.Perm.refl _⟩⟩
 case round =>
  obtain ⟨i, g', hai, hib, rfl, HU, HSM, HO, HS, HP⟩ := hrel
  by_cases ci : i < b
  ·have HU2 := Lib.hid (show Up cf g' a i from HU.out.resolve_right zq4)
   go_wp2
   go_loopw [9] (fun v9 wr2 => ∃ (j : Nat) (g2 : Nat → El), a ≤ j ∧ j ≤ i ∧ v9 = .int .i64 (j : Int) ∧ Aside0 (Ins cf g2 a i j) ∧ Aside0 (SameOn g g2 a b) ∧ Aside0 (Holds enc 3 wr2 blk 41 n g2) ∧ Aside0 (Step (OnlyB blk) (OnlyB blk) w wr2) ∧ Aside0 ((row g2 n).Perm (row g n))) (fun v9 wr2 => (intOf v9).toNat)
   case atStart => exact ⟨i, g', by omega, by omega, rfl, ⟨ins_start HU2.out⟩, ⟨HSM.out⟩, ⟨HO.out⟩, ⟨HS.out⟩, ⟨HP.out⟩⟩
   case round =>
    obtain ⟨j, g2, haj, hji, rfl, HI, HSM2, HO2, HS2, HP2⟩ := hrel
    by_cases cj : a < j
    ·obtain ⟨r, hr⟩ : ∃ r, j = r + 1 := ⟨j - 1, by omega⟩
     have hpn : j < n := by omega
     have hrn : r < n := by omega
     obtain ⟨X, hX⟩ : ∃ X, g2 j = X := ⟨_, rfl⟩
     obtain ⟨Y, hY⟩ : ∃ Y, g2 r = Y := ⟨_, rfl⟩
     have hx := fun j' u h => HO2.out.cell (i := j) (j := j') (u := u) hpn h
     have hy := fun j' u h => HO2.out.cell (i := r) (j := j') (u := u) hrn h
     rw [hX] at hx; rw [hY] at hy; have x0 := hx 0 _ rfl; rw [Nat.add_zero] at x0; have x1 := hx 1 _ rfl; have x2 := hx 2 _ rfl; have y0 := hy 0 _ rfl; rw [Nat.add_zero] at y0; have y1 := hy 1 _ rfl; have y2 := hy 2 _ rfl; have okk : ∀ q, q < n → OK (g2 q) := fun q hq => by
      by_cases c : a ≤ q ∧ q < b
      ·obtain ⟨z, z1, z2, e⟩ := HSM2.out.2 q c.1 c.2
       rw [e]; exact HOK.out z zq4
      ·rw [HSM2.out.1 q zq4]; exact HOK.out q hq
     have CM := Lib.hid (fun (p : BelowOf wr) => HC.out X Y p.W (hX ▸ okk j hpn) (hY ▸ okk r hrn) (HS2.out.trans (Step.of_below p.h))); have e1 : IntKind.i64.wrap ((j : Int) - 1) = (r : Int) := by rw [IntKind.wrap_i64]; omega
     have e2 : (j : Int) - 1 = (r : Int) := by omega
     have l1 : (j : Int) < (n : Int) := by omega
     have l2 : (r : Int) < (n : Int) := by omega
     have bg : decide ((j : Int) > (a : Int)) = true := decide_eq_true zq4; have bg' : (a : Int) < (j : Int) := by omega
     have hu := Tryz.underlying41; obtain ⟨cv, hcv⟩ : ∃ cv, cf X Y = cv := ⟨_, rfl⟩
     rw [hcv] at CM; have x0' := fun p => BelowOf.cell x0 p
     have x1' := fun p => BelowOf.cell x1 p
     have x2' := fun p => BelowOf.cell x2 p
     have y0' := fun p => BelowOf.cell y0 p
     have y1' := fun p => BelowOf.cell y1 p
     have y2' := fun p => BelowOf.cell y2 p
     have HX := Lib.hid hX; have HY := Lib.hid hY; have HCV := Lib.hid hcv; have HR := Lib.hid hr; have HPN := Lib.hid hpn; have HRN := Lib.hid hrn
     by_cases hc : cv < 0
     ·have bc : decide (cv < 0) = true := decide_eq_true hc
      clear hx hy hX hY hcv hr hpn hrn okk; go_wp2; refine wp_region_quiet_below zq17 zq17 ?_
      repeat (go_big_quiet_step (exact below_calls (CM.out _)))
      refine wpQuiet_nil ?_; intro wq hw1; have hwq : Below wr.heap.size wr wq := by obtain ⟨p, rfl⟩ := hw1; exact p.h
      clear hw1; have HWQ := Lib.hid hwq; have x0 := pw_cell_below HWQ.out x0; have x1 := pw_cell_below HWQ.out x1; have x2 := pw_cell_below HWQ.out x2; have y0 := pw_cell_below HWQ.out y0; have y1 := pw_cell_below HWQ.out y1; have y2 := pw_cell_below HWQ.out y2; have HO3 := Lib.hid (HO2.out.below hwq); have fz := HO3.out.frozen; have z1 : (wq.setCell ⟨blk, j * 3, none⟩ (.slice Y.A Y.row.length Y.c)).cell? ⟨blk, j * 3 + 1, none⟩ = some (.int .i64 X.at') := (far_cell x1 zq46 (.slice Y.A Y.row.length Y.c))
      have z2 : ((wq.setCell ⟨blk, j * 3, none⟩ (.slice Y.A Y.row.length Y.c)).setCell ⟨blk, j * 3 + 1, none⟩ (.int .i64 Y.at')).cell? ⟨blk, j * 3 + 2, none⟩ = some (.int .i64 X.net) := (far_cell (far_cell x2 zq46 (.slice Y.A Y.row.length Y.c)) zq46 (.int .i64 Y.at'))
      have t0 : (((wq.setCell ⟨blk, j * 3, none⟩ (.slice Y.A Y.row.length Y.c)).setCell ⟨blk, j * 3 + 1, none⟩ (.int .i64 Y.at')).setCell ⟨blk, j * 3 + 2, none⟩ (.int .i64 Y.net)).cell? ⟨blk, r * 3, none⟩ = some (.slice Y.A Y.row.length Y.c) := (far_cell (far_cell (far_cell y0 zq46 (.slice Y.A Y.row.length Y.c)) zq46 (.int .i64 Y.at')) zq46 (.int .i64 Y.net))
      have t1 : ((((wq.setCell ⟨blk, j * 3, none⟩ (.slice Y.A Y.row.length Y.c)).setCell ⟨blk, j * 3 + 1, none⟩ (.int .i64 Y.at')).setCell ⟨blk, j * 3 + 2, none⟩ (.int .i64 Y.net)).setCell ⟨blk, r * 3, none⟩ (.slice X.A X.row.length X.c)).cell? ⟨blk, r * 3 + 1, none⟩ = some (.int .i64 Y.at') := (far_cell (far_cell (far_cell (far_cell y1 zq46 (.slice Y.A Y.row.length Y.c)) zq46 (.int .i64 Y.at')) zq46 (.int .i64 Y.net)) zq46 (.slice X.A X.row.length X.c))
      have t2 : (((((wq.setCell ⟨blk, j * 3, none⟩ (.slice Y.A Y.row.length Y.c)).setCell ⟨blk, j * 3 + 1, none⟩ (.int .i64 Y.at')).setCell ⟨blk, j * 3 + 2, none⟩ (.int .i64 Y.net)).setCell ⟨blk, r * 3, none⟩ (.slice X.A X.row.length X.c)).setCell ⟨blk, r * 3 + 1, none⟩ (.int .i64 X.at')).cell? ⟨blk, r * 3 + 2, none⟩ = some (.int .i64 Y.net) := (far_cell (far_cell (far_cell (far_cell (far_cell y2 zq46 (.slice Y.A Y.row.length Y.c)) zq46 (.int .i64 Y.at')) zq46 (.int .i64 Y.net)) zq46 (.slice X.A X.row.length X.c)) zq46 (.int .i64 X.at'))
      clear hwq x0' x1' x2' y0' y1' y2'; go_wp2
      go_region
      have HO4 := Lib.hid ((HO3.out.exch3 enc_len HPN.out HRN.out (show enc _ = _ by rw [HX.out]; rfl) (show enc _ = _ by rw [HY.out]; rfl)).drew); have HS4 := Lib.hid (HS2.out.trans ((Step.of_below HWQ.out).trans (step_drew _ (step_exch3 wq blk (j * 3) (j * 3 + 1) (j * 3 + 2) (r * 3) (r * 3 + 1) (r * 3 + 2) (.slice Y.A Y.row.length Y.c) (.int .i64 Y.at') (.int .i64 Y.net) (.slice X.A X.row.length X.c) (.int .i64 X.at') (.int .i64 X.net))))); have HP4 := Lib.hid ((exch_perm g2 n j r HPN.out HRN.out).trans HP2.out); have HI4 := Lib.hid (show Ins cf (exch g2 j r) a i r by
       have e := HR.out; have hc2 : cf (g2 j) (g2 r) < 0 := by rw [HX.out, HY.out, HCV.out]; exact of_decide_eq_true bc
       clear bc; subst e; exact ins_step o HI.out zq4 hji hc2)
      have HSM4 := Lib.hid (show SameOn g (exch g2 j r) a b from HSM2.out.trans (SameOn.exch g2 zq4 zq4 zq46 zq46)); go_wp2; go_roundw
      case rel => exact ⟨r, exch g2 j r, by have := HR.out; omega, by have := HR.out; omega, rfl, ⟨HI4.out⟩, ⟨HSM4.out⟩, ⟨HO4.out⟩, ⟨HS4.out⟩, ⟨HP4.out⟩⟩
      case measure => simp [intOf]; have := HR.out; omega
     ·have bc : decide (cv < 0) = false := decide_eq_false hc
      clear hx hy hX hY hcv hr hpn hrn okk; go_wp2; refine wp_region_quiet_below zq17 zq17 ?_
      repeat (go_big_quiet_step (exact below_calls (CM.out _)))
      refine wpQuiet_nil ?_; intro wq hw1; have hwq : Below wr.heap.size wr wq := by obtain ⟨p, rfl⟩ := hw1; exact p.h
      clear hw1; have HWQ := Lib.hid hwq; clear hwq; have HU3 := Lib.hid (show Up cf g2 a (i + 1) from ins_done o HI.out hji (.inr ⟨r, HR.out, by rw [HX.out, HY.out, HCV.out]; exact of_decide_eq_false bc⟩)); go_wp2; go_roundw
      case rel => exact ⟨i + 1, g2, by omega, by omega, by go_num, ⟨.inl HU3.out⟩, ⟨HSM2.out⟩, ⟨HO2.out.below HWQ.out⟩, ⟨HS2.out.trans (Step.of_below HWQ.out)⟩, ⟨HP2.out⟩⟩
      case measure => simp [intOf]; omega
    ·have hja : j = a := by omega
     have bg : decide ((j : Int) > (a : Int)) = false := decide_eq_false zq4; have HU3 := Lib.hid (show Up cf g2 a (i + 1) from ins_done o HI.out hji (.inl zq4)); have HJA := Lib.hid hja; clear hja; go_wp2; refine wp_region_quiet_below zq17 zq17 ?_
     repeat (go_big_quiet_step (fail))
     refine wpQuiet_nil ?_; intro wq hw1; have hwq : Below wr.heap.size wr wq := by obtain ⟨p, rfl⟩ := hw1; exact p.h
     clear hw1; have HWQ := Lib.hid hwq; clear hwq; go_wp2; go_roundw
     case rel => exact ⟨i + 1, g2, by omega, by omega, by go_num, ⟨.inl HU3.out⟩, ⟨HSM2.out⟩, ⟨HO2.out.below HWQ.out⟩, ⟨HS2.out.trans (Step.of_below HWQ.out)⟩, ⟨HP2.out⟩⟩
     case measure => simp [intOf]; omega
  ·have HU2 := Lib.hid (show Up cf g' a b by
    rcases HU.out with h | h
    ·exact h.sub (Nat.le_refl _) zq4
    ·exact Up.one cf g' a b zq4)
   go_wp2
   go_end0
   exact ⟨rfl, g', HO.out, HU2.out, HSM.out, HS.out, HP.out⟩
theorem same_ok {OK : El → Prop} {g g' : Nat → El} {a b n : Nat} (h : ∀ i, i < n → OK (g i)) (hs : SameOn g g' a b) (hb : b ≤ n) {q : Nat} (hq : q < n) : OK (g' q) := by
 by_cases c : a ≤ q ∧ q < b
 ·obtain ⟨z, z1, z2, e⟩ := hs.2 q c.1 c.2
  rw [e]; exact h z zq4
 ·rw [hs.1 q zq4]; exact h q hq
def Bl (cf : El → El → Int) (g : Nat → El) (s n : Nat) : Prop := ∀ a, s ∣ a → Up cf g a (min (a + s) n)
theorem stable_calls (cf : El → El → Int) (o : Ord cf) (OK : El → Prop) (blk cap n : Nat) (fn : Nat) (hn : n ≤ 20) (hfn : ∀ args w, (callFunc fn args).run Tryz.prog w = .ok (.enter fn args) w) (g : Nat → El) (w : World) (hH : Holds enc 3 w blk 41 n g) (hok : ∀ i, i < n → OK (g i))
  (hcmp : ∀ (x y : El) (w1 : World), OK x → OK y → Step (OnlyB blk) (OnlyB blk) w w1 → Calls Tryz.prog fn #[.agg #[.slice x.A x.row.length x.c, .int .i64 x.at', .int .i64 x.net], .agg #[.slice y.A y.row.length y.c, .int .i64 y.at', .int .i64 y.net]] w1 fun e w' => e = .returned (.int .i64 (cf x y)) ∧ Below w1.heap.size w1 w') :
  Calls Tryz.prog 147 #[.slice (some ⟨blk, 0, none⟩) n cap, .int .i64 (n : Int), .func (.func fn) #[] #[]] w fun e w' => e = .returned (.tuple #[]) ∧ ∃ g', Holds enc 3 w' blk 41 n g' ∧ Up cf g' 0 n ∧ SameOn g g' 0 n ∧ Step (OnlyB blk) (OnlyB blk) w w' ∧ (row g' n).Perm (row g n) := by
 have HH := Lib.hid hH; have HOK := Lib.hid hok; have HC := Lib.hid hcmp; clear hH hok hcmp; go_enter Tryz.func147, Tryz.ntmps147; go_wp2
 go_loopw [7, 8] (fun v7 v8 wr => ∃ (a : Nat) (g' : Nat → El), a ≤ n ∧ 20 ∣ a ∧ v7 = .int .i64 (a : Int) ∧ v8 = .int .i64 ((a + 20 : Nat) : Int) ∧ Aside0 (∀ c, 20 ∣ c → c < a → Up cf g' c (c + 20)) ∧ Aside0 (SameOn g g' 0 n) ∧ Aside0 (Holds enc 3 wr blk 41 n g') ∧ Aside0 (Step (OnlyB blk) (OnlyB blk) w wr) ∧ Aside0 ((row g' n).Perm (row g n))) (fun v7 v8 wr => n - (intOf v7).toNat)
 case atStart => exact ⟨0, g, by omega, by omega, rfl, by simp, ⟨fun c _ h => absurd h (Nat.not_lt_zero c)⟩, ⟨SameOn.refl _ _ _⟩, ⟨HH.out⟩, ⟨Step.refl _ _⟩, ⟨List.Perm.refl _⟩⟩
 case round =>
  obtain ⟨a, g', ha, h20, rfl, rfl, HU, HSM, HO, HS, HP⟩ := hrel; have OK1 := Lib.hid (fun q (hq : q < n) => same_ok HOK.out HSM.out (Nat.le_refl n) hq); obtain ⟨b, hb⟩ : ∃ b, a + 20 = b := ⟨_, rfl⟩
  rw [hb]
  by_cases c1 : b ≤ n
  ·have bl : decide ((b : Int) ≤ (n : Int)) = true := decide_eq_true zq4
   go_wp2_with (go_at_call 166; (with_reducible refine (insertion_calls cf o OK blk cap n g' fn a b _ HO.out OK1.out ?ia ?ib (Nat.le_trans hn zq34) hfn (fun x y w9 hx hy hs => HC.out x y w9 hx hy (HS.out.trans hs))).mono ?_); (case ia => omega); (case ib => omega); rintro e w1 ⟨rfl, g2, k1, k2, k3, k4, k5⟩; have HO2 := Lib.hid k1; have U2 := Lib.hid k2; have G2 := Lib.hid k3; have S2 := Lib.hid (HS.out.trans k4); have P2 := Lib.hid (k5.trans HP.out); clear k1 k2 k3 k4 k5)
   go_roundw
   case rel =>
    refine ⟨b, g2, by omega, by omega, rfl, by simp, ⟨fun c h1 h2 => ?_⟩, ⟨HSM.out.trans (G2.out.wide (Nat.zero_le _) c1)⟩, ⟨HO2.out⟩, ⟨S2.out⟩, ⟨P2.out⟩⟩
    by_cases h3 : c < a
    ·exact (HU.out c h1 h3).congr fun q _ h4 => G2.out.1 q (.inl zq4)
    ·have h5 : c = a := by omega
     rw [h5, hb]; exact U2.out
   case measure => simp [intOf]; omega
  ·have bl : decide ((b : Int) ≤ (n : Int)) = false := decide_eq_false zq4
   go_wp2_with (go_at_call 166; (with_reducible refine (insertion_calls cf o OK blk cap n g' fn a n _ HO.out OK1.out ?ja ?jb (Nat.le_trans hn zq34) hfn (fun x y w9 hx hy hs => HC.out x y w9 hx hy (HS.out.trans hs))).mono ?_); (case ja => omega); (case jb => omega); rintro e w1 ⟨rfl, g2, k1, k2, k3, k4, k5⟩; have HO2 := Lib.hid k1; have U2 := Lib.hid k2; have G2 := Lib.hid k3; have S2 := Lib.hid (HS.out.trans k4); have P2 := Lib.hid (k5.trans HP.out); clear k1 k2 k3 k4 k5)
   have HBL := Lib.hid (show Bl cf g2 20 n from fun c h1 => by
    by_cases h3 : c < a
    ·have h4 := (HU.out c h1 h3).congr fun q _ h4 => G2.out.1 q (.inl zq4)
     rw [Nat.min_eq_left zq4]; exact h4
    ·by_cases h5 : c = a
     ·rw [h5, Nat.min_eq_right zq4]; exact U2.out
     ·exact Up.one cf g2 _ _ zq4)
   have HSM2 := Lib.hid (HSM.out.trans (G2.out.wide (Nat.zero_le _) (Nat.le_refl _))); clear HU HSM HO HS HP OK1 U2 G2
   go_loopw [6, 7, 8, 9] (fun v6 v7 v8 v9 wr => ∃ (s : Nat) (g' : Nat → El), s = 20 ∧ 0 < s ∧ s ≤ 2 * n + 20 ∧ v6 = .int .i64 (s : Int) ∧ Aside0 (Bl cf g' s n) ∧ Aside0 (SameOn g g' 0 n) ∧ Aside0 (Holds enc 3 wr blk 41 n g') ∧ Aside0 (Step (OnlyB blk) (OnlyB blk) w wr) ∧ Aside0 ((row g' n).Perm (row g n))) (fun v6 v7 v8 v9 wr => n - (intOf v6).toNat)
   case atStart => exact ⟨20, g2, rfl, by omega, by omega, rfl, ⟨HBL.out⟩, ⟨HSM2.out⟩, ⟨HO2.out⟩, ⟨S2.out⟩, ⟨P2.out⟩⟩
   case round =>
    obtain ⟨s, g3, hs20, hs0, hs1, rfl, HB, HSM, HO, HS, HP⟩ := hrel
    by_cases c2 : s < n
    ·exact absurd c2 zq4
    ·have bs : decide ((s : Int) < (n : Int)) = false := decide_eq_false zq4
     have HU := Lib.hid (show Up cf g3 0 n by
      have h := HB.out 0 ⟨0, rfl⟩; rw [Nat.min_eq_right zq4] at h; exact h)
     go_wp2
     go_end0
     exact ⟨rfl, g3, HO.out, HU.out, HSM.out, HS.out, HP.out⟩
theorem sort_calls (cf : El → El → Int) (o : Ord cf) (OK : El → Prop) (blk cap n : Nat) (fn : Nat) (hn : n ≤ 20) (hfn : ∀ args w, (callFunc fn args).run Tryz.prog w = .ok (.enter fn args) w) (g : Nat → El) (w : World) (hH : Holds enc 3 w blk 41 n g) (hok : ∀ i, i < n → OK (g i))
  (hcmp : ∀ (x y : El) (w1 : World), OK x → OK y → Step (OnlyB blk) (OnlyB blk) w w1 → Calls Tryz.prog fn #[.agg #[.slice x.A x.row.length x.c, .int .i64 x.at', .int .i64 x.net], .agg #[.slice y.A y.row.length y.c, .int .i64 y.at', .int .i64 y.net]] w1 fun e w' => e = .returned (.int .i64 (cf x y)) ∧ Below w1.heap.size w1 w') :
  Calls Tryz.prog 103 #[.slice (some ⟨blk, 0, none⟩) n cap, .func (.func fn) #[] #[]] w fun e w' => e = .returned (.tuple #[]) ∧ ∃ g', Holds enc 3 w' blk 41 n g' ∧ Up cf g' 0 n ∧ SameOn g g' 0 n ∧ Step (OnlyB blk) (OnlyB blk) w w' ∧ (row g' n).Perm (row g n) := by
 have SC := Lib.hid (stable_calls cf o OK blk cap n fn hn hfn g w hH hok hcmp); clear hH hok hcmp; go_enter Tryz.func103, Tryz.ntmps103
 go_wp2_with ((with_reducible refine SC.out.mono ?_); rintro e w1 ⟨rfl, g2, k1, k2, k3, k4, k5⟩; have HO2 := Lib.hid k1; have U2 := Lib.hid k2; have G2 := Lib.hid k3; have S2 := Lib.hid k4; have P2 := Lib.hid k5; clear k1 k2 k3 k4 k5)
 go_end0
 exact ⟨rfl, g2, HO2.out, U2.out, G2.out, S2.out, P2.out⟩
end Go.Proofs.YtmkgecapkeojaaaGreat.SortE
end
section
namespace Go.Proofs.YtmkgecapkeojaaaGreat.SortE
open Go Go.RowKit Go.Proofs.YtmkgecapkeojaaaGreatW.PrintWords Go.Proofs.YtmkgecapkeojaaaGreatW.PrintLast Go.Proofs.YtmkgecapkeojaaaGreatW.PrintMore
theorem insertion_nil (c fn : Nat) (w : World) : Calls Tryz.prog 166 #[.slice none 0 c, .int .i64 0, .int .i64 0, .func (.func fn) #[] #[]] w fun e w' => e = .returned (.tuple #[]) ∧ w' = w := by
 go_enter Tryz.func166, Tryz.ntmps166; go_wp2
 go_loopw [8] (fun v8 wr => v8 = .int .i64 1 ∧ Aside0 (wr = w)) (fun v8 wr => 0)
 case atStart => exact ⟨rfl, ⟨rfl⟩⟩
 case round =>
  obtain ⟨rfl, HW⟩ := hrel; go_wp2
  go_end0
  exact ⟨rfl, HW.out⟩
theorem stable_nil (c fn : Nat) (w : World) : Calls Tryz.prog 147 #[.slice none 0 c, .int .i64 0, .func (.func fn) #[] #[]] w fun e w' => e = .returned (.tuple #[]) ∧ w' = w := by
 go_enter Tryz.func147, Tryz.ntmps147; go_wp2
 go_loopw [7, 8] (fun v7 v8 wr => v7 = .int .i64 0 ∧ v8 = .int .i64 20 ∧ Aside0 (wr = w)) (fun v7 v8 wr => 0)
 case atStart => exact ⟨rfl, rfl, ⟨rfl⟩⟩
 case round =>
  obtain ⟨rfl, rfl, HW⟩ := hrel
  go_wp2_with (go_at_call 166; (with_reducible refine (insertion_nil c fn _).mono ?_); rintro e w1 ⟨rfl, h1⟩; have HW1 := Lib.hid (h1.trans HW.out); clear h1)
  go_loopw [6] (fun v6 wr => v6 = .int .i64 20 ∧ Aside0 (wr = w)) (fun v6 wr => 0)
  case atStart => exact ⟨rfl, ⟨HW1.out⟩⟩
  case round =>
   obtain ⟨rfl, HW2⟩ := hrel; go_wp2
   go_end0
   exact ⟨rfl, HW2.out⟩
theorem sort_nil (c fn : Nat) (w : World) : Calls Tryz.prog 103 #[.slice none 0 c, .func (.func fn) #[] #[]] w fun e w' => e = .returned (.tuple #[]) ∧ w' = w := by
 go_enter Tryz.func103, Tryz.ntmps103
 go_wp2_with (go_at_call 147; (with_reducible refine (stable_nil c fn _).mono ?_); rintro e w1 ⟨rfl, rfl⟩)
 go_end0
 exact ⟨rfl, rfl⟩
end Go.Proofs.YtmkgecapkeojaaaGreat.SortE
end
section
namespace Go.Proofs.YtmkgecapkeojaaaGreat.Eg
open Go.Proofs.YtmkgecapkeojaaaGreat Go.Proofs.YtmkgecapkeojaaaGreat.PDa
open Go.RowKit Go.Proofs.YtmkgecapkeojaaaGreatW.PrintWords Go.Proofs.YtmkgecapkeojaaaGreatW.PrintLast Go.Proofs.YtmkgecapkeojaaaGreatW.PrintMore
open Go.Proofs.YtmkgecapkeojaaaGreat.SortP Go.Proofs.YtmkgecapkeojaaaGreat.SortM Go.Proofs.YtmkgecapkeojaaaGreat.Run Go.Proofs.YtmkgecapkeojaaaGreat.Stp Go.Proofs.YtmkgecapkeojaaaGreat.Rw
abbrev El := SortE.El
def kEl : Kd El where
 sz := 3
 E := []
 K := fun _ x cs => cs = SortE.enc x
 M := fun _ _ _ x cs => cs = SortE.enc x
 K_len := fun h => by rw [h]; rfl
 K_one := fun h u hu => by
  rw [h] at hu; simp only [SortE.enc, List.mem_cons, List.not_mem_nil, or_false] at hu
  rcases hu with rfl | rfl | rfl <;> rfl
 K_below := fun _ h => h
 K_of_M := fun h => h
 M_mono := fun _ h => h
 M_bound := fun h => h
 M_move := fun _ h => h
 M_lower := fun _ h => h
def edP (x : El) : EdP := ⟨x.row, x.at', x.net⟩
def rowE (g : Nat → El) (n : Nat) : List EdP := (row g n).map edP
theorem rowE_len (g : Nat → El) (n : Nat) : (rowE g n).length = n := by simp [rowE, row_len]
theorem rowE_get (g : Nat → El) (n i : Nat) (h : i < (rowE g n).length) : (rowE g n)[i] = edP (g i) := by simp [rowE, row]
def OkEl (w : World) (x : El) : Prop := Kd.C kV w x.A x.row.length x.row ∧ x.row.length ≤ x.c
theorem els_of {w : World} {A : Option Addr} {l : List EdP} (h : Kd.C kE w A l.length l) : ∃ g : Nat → El, Kd.C kEl w A l.length (row g l.length) ∧ rowE g l.length = l ∧ ∀ i, i < l.length → OkEl w (g i) := by
 have hx : ∀ i, ∃ x : El, i < l.length → ∃ ad, A = some ad ∧ edP x = l.getD i z41 ∧ OkEl w x ∧ ∀ j u, (SortE.enc x)[j]? = some u → w.cell? (ad.add (i * 3 + j)) = some u := by
  intro i
  by_cases hi : i < l.length
  ·obtain ⟨ad, e, hc⟩ := h.2.2 zq4
   obtain ⟨c, hl, hK, hcc⟩ := hc i _ (List.getElem?_eq_getElem hi); obtain ⟨A0, c0, rfl, hle, hC⟩ := k41_open hK; refine ⟨⟨A0, c0, l[i].f0, l[i].f1, l[i].f2⟩, fun _ => ⟨ad, e, ?_, ⟨hC, hle⟩, hcc⟩⟩; rw [List.getD_eq_getElem?_getD, List.getElem?_eq_getElem hi]
   rfl
  ·exact ⟨⟨none, 0, [], 0, 0⟩, fun h => absurd h hi⟩
 obtain ⟨g, hg⟩ := Classical.axiomOfChoice hx; refine ⟨g, ⟨by rw [row_len], h.2.1, fun hp => ?_⟩, ?_, fun i hi => (hg i hi).choose_spec.2.2.1⟩
 ·obtain ⟨ad, e, _⟩ := hg 0 hp
  refine ⟨ad, e, fun j p hj => ?_⟩; have hjl : j < l.length := by have := (List.getElem?_eq_some_iff.1 hj).1; rwa [row_len] at this
  obtain ⟨ad', e', _, _, hc⟩ := hg j hjl; obtain rfl : ad = ad' := Option.some.inj (e.symm.trans e'); have hp' : p = g j := by
   obtain ⟨_, h2⟩ := List.getElem?_eq_some_iff.1 hj; rw [← h2]; simp [row]
  subst hp'; exact ⟨_, rfl, rfl, hc⟩
 ·refine List.ext_getElem (rowE_len _ _) fun i h1 h2 => ?_
  rw [rowE_get]; obtain ⟨_, _, e, _⟩ := hg i h2; rw [e, List.getD_eq_getElem?_getD, List.getElem?_eq_getElem h2]
  rfl
theorem C_of_holds {W : World} {blk n : Nat} {g : Nat → El} (h : Holds SortE.enc 3 W blk 41 n g) (hn : n ≤ 9223372036854775807) (hok : ∀ i, i < n → OkEl W (g i)) : Kd.C kE W (some ⟨blk, 0, none⟩) n (rowE g n) := by
 refine ⟨rowE_len g n, hn, fun hp => ⟨_, rfl, fun j p hj => ?_⟩⟩; obtain ⟨hl, e⟩ := List.getElem?_eq_some_iff.1 hj; rw [rowE_get] at e; rw [rowE_len] at hl; subst e; obtain ⟨h1, h2⟩ := hok j hl; refine ⟨SortE.enc (g j), rfl, k41_mk W (edP (g j)) h2 h1, fun i u hu => ?_⟩; have := h.cell (i := j) (j := i) hl hu
 show W.cell? ((⟨blk, 0, none⟩ : Addr).add (j * 3 + i)) = some u
 rw [show (⟨blk, 0, none⟩ : Addr).add (j * 3 + i) = ⟨blk, j * 3 + i, none⟩ by unfold Addr.add; split <;> simp_all]; exact this
theorem holds_of_El {W : World} {base : Nat} {ok : Nat → Prop} {v : Value} {n : Nat} {g : Nat → El} (h : Kd.R kEl tE W base ok v (row g n)) (hn : 0 < n) :
  ∃ b cap, v = .slice (some ⟨b, 0, none⟩) n cap ∧ base ≤ b ∧ Holds SortE.enc 3 W b 41 n g := by
 obtain ⟨_, inner, ho, hr⟩ := h; rw [row_len] at ho
 rcases ho.2 with ⟨_, h0⟩ | ⟨b, cap, cur, rfl, hg, hh, h1, h2, h3, h4⟩
 ·omega
 ·refine ⟨b, cap, rfl, hg, cur, hh, ?_, fun i j u hi hu => ?_⟩
  ·rw [h3]; exact Nat.mul_le_mul_right 3 h1
  ·have hx : (row g n)[i]? = some (g i) := by rw [List.getElem?_eq_getElem (by rw [row_len]; exact hi)]; simp [row]
   have e : (inner.drop (i * 3)).take 3 = SortE.enc (g i) := hr.2 i _ hx; have hj : j < 3 := (List.getElem?_eq_some_iff.1 hu).1; have e2 : inner[i * 3 + j]? = some u := by
    rw [← e, List.getElem?_take_of_lt hj, List.getElem?_drop] at hu; exact hu
   rw [← h4] at e2; rw [List.getElem?_take_of_lt (by have := (List.getElem?_eq_some_iff.1 e2).1; simp at this; omega), Array.getElem?_toList] at e2; exact e2
theorem clone_El (A0 : Option Addr) (c0 : Nat) (l0 : List El) (w : World) (hr0 : Kd.C kEl w A0 l0.length l0) (hlen : l0.length ≤ 20) :
  Calls Tryz.prog 102 #[.slice A0 l0.length c0] w fun e w' => ∃ v0_ : Value, e = .returned v0_ ∧ Kd.R kEl 41 w' w.heap.size (fun _ => True) v0_ l0 ∧ Below w.heap.size w w' := by
 have hu22 : Tryz.prog.underlying 22 = some (.slice 41) := by kernel_rfl
 have LM := Aside0.mk hlen; clear hlen; have HR0 := Aside0.mk hr0; clear hr0; have HB := Aside0.mk (Below.refl w.heap.size w); cases A0 with
 | none =>
  have hn : ∀ w : World, (binOp .eql 22 (.slice none l0.length c0) (.slice none 0 0)).run Tryz.prog w = .ok (.bool true) w := fun w => Lib.run_eql_slice_nil w _ _ none l0.length c0 0 0 hu22
  have h0 : l0 = [] := by
   have := HR0.out.2.2
   rcases l0 with _ | ⟨x, xs⟩
   ·rfl
   ·obtain ⟨ad, h', _⟩ := this zq30
    cases h'
  replace h0 := Lib.hid h0; go_enter Tryz.func102, Tryz.ntmps102; go_wp2; go_ret; exact ⟨_, rfl, by rw [h0.out]; exact Kd.R_nil _ _ _ _ _, Below.refl _ _⟩
 | some ad =>
  have hn : ∀ w : World, (binOp .eql 22 (.slice (some ad) l0.length c0) (.slice none 0 0)).run Tryz.prog w = .ok (.bool false) w := fun w => Lib.run_eql_slice_nil w _ _ (some ad) l0.length c0 0 0 hu22
  go_enter Tryz.func102, Tryz.ntmps102
  go_wp2_with (first
   | ((with_reducible refine gate_dst (N := 5) rfl ?_); refine Kd.R_lit kEl _ 41 ?hg (N := 5) ?hd (xs := ([] : List El)) (inner := []) (ok := fun _ => True) (okp := fun _ => True) ?hr ?hp (fun _ hk => hk) trivial (Below.refl _ _) (Nat.le_refl _) zq30 ?_; (case hd => rfl); (case hg => rfl); (case hr => first | (go_simp; done) | (go_simp; rfl)); (case hp => exact (Reps.none _ _)); intro v159 w23 ho24 hb hg_ hnew_; clear hg_ hnew_; have HO := Aside0.mk (Kd.R_lower ho24 (below_size HB.out)); have HR1 := Aside0.mk (Kd.C_below HR0.out hb); have HB1 := Aside0.mk (below_step HB.out hb); clear hb ho24)
   | ((with_reducible refine gate_dst (N := 7) rfl ?_); refine Kd.R_append_rows kEl (w0 := w) w.heap.size rfl (.tmp 5) (.tmp 6) 22 41 (.agg #[.slice none 0 0, (.int .i64 0), (.int .i64 0)]) 40 rfl hu22 info41 rfl zq34 zq4 v159 [] l0 _ _ _ (fun _ => True) (fun _ => False) rfl rfl ?aO ?aR (fun _ _ h => h) (fun _ h => h.elim) (fun _ _ => trivial) ?aB ?aS ?aL ?_; (case aO => exact HO.out); (case aR => exact HR1.out); (case aB => exact HB1.out); (case aS => exact below_size HB1.out); (case aL => have := LM.out; simp only [List.length_nil, Nat.zero_add]; omega); intro v167 w26 ho hb hg hat; have HO2 := Aside0.mk ho; have HB2 := Aside0.mk hb; clear ho hb hg hat))
  go_ret; exact ⟨_, rfl, HO2.out, HB2.out⟩
theorem normJ_len (f : List Jp) : (normJ f).1.length ≤ 1000000000 := by
 have ht : ∀ z : List Jp, (toldJ z).1.length ≤ 1000000000 := by
  intro z; unfold toldJ
  split
  ·rename_i h
   unfold mayJ at h; rw [Bool.and_eq_true] at h; have := of_decide_eq_true h.1
   show z.length ≤ _
   omega
  ·exact Nat.zero_le _
 unfold normJ
 repeat' split
 all_goals first | exact Nat.zero_le _ | exact ht _
theorem norm4_calls (A0 : Option Addr) (c0 : Nat) (f : List Jp) (w : World) (hr0 : Kd.C kJ w A0 f.length f) (hc0 : f.length ≤ c0) (hl : f.length ≤ 20) :
  Calls Tryz.prog 108 #[.slice A0 f.length c0] w fun e w' => ∃ v, e = .returned (.tuple #[v, .int .i64 (normJ f).2]) ∧ Kd.R kJ 85 w' 0 (fun _ => True) v (normJ f).1 ∧ Below w.heap.size w w' := by
 have NC := Lib.hid (Stp.norm_calls A0 c0 f w hr0 hc0 hl); obtain ⟨r, hr⟩ : ∃ r, normJ f = r := ⟨_, rfl⟩
 rw [hr] at NC ⊢; clear hr0 hc0 hl hr; go_enter Tryz.func108, Tryz.ntmps108
 go_wp2_with ((with_reducible refine NC.out.mono ?_); rintro e w' ⟨v, rfl, hR, hb⟩; have HRR := Lib.hid hR; have HB := Lib.hid hb; clear hR hb)
 go_ret2; exact ⟨v, rfl, Kd.R_lower HRR.out (Nat.zero_le _), HB.out⟩
def cfE (x y : El) : Int := keyC (x.row, x.at') (y.row, y.at')
theorem cfE_ord : Ord cfE := by
 refine ⟨fun x y h1 h2 => ?_, fun x y z h1 h2 => ?_⟩
 ·have := (keyC_is.anti _ _).1 h1
  unfold cfE at h2; omega
 ·exact keyC_is.not_lt.2 (keyC_is.le_trans (keyC_is.not_lt.1 h1) (keyC_is.not_lt.1 h2))
def keyE (e : EdP) : List Vl × Int := (e.f0, e.f1)
def SortedE (s : List EdP) : Prop := s.Pairwise fun a b => ¬ keyC (keyE b) (keyE a) < 0
def NormIs (l : List EdP) (r : List EdP × Int) : Prop :=
 (l.any argE = true ∧ r = ([], 2)) ∨ (l.any argE = false ∧ l.any (fun x => timeB x.f1) = true ∧ r = ([], 13)) ∨
  (l.any argE = false ∧ l.any (fun x => timeB x.f1) = false ∧ ∃ s, s.Perm l ∧ SortedE s ∧ r = mapP normJ s)
theorem sortedE_of {g : Nat → El} {n : Nat} (h : Up cfE g 0 n) : SortedE (rowE g n) := by
 unfold SortedE; rw [List.pairwise_iff_getElem]; intro i j hi hj hij; rw [rowE_get, rowE_get]; rw [rowE_len] at hj; exact h i j (Nat.zero_le _) hij hj
theorem argE_may {x : EdP} (h : argE x = false) : rowMay x.f0 = true := by
 unfold argE at h; simp only [Bool.or_eq_false_iff] at h; simp_all
theorem sort_hcmp {w w3 : World} {blk : Nat} (hb3 : Below w.heap.size w w3) (hbk : w.heap.size ≤ blk) (x y : El) (w1 : World) (hx : OkEl w x ∧ rowMay x.row = true) (hy : OkEl w y ∧ rowMay y.row = true) (hs : Step (OnlyB blk) (OnlyB blk) w3 w1) :
  Calls Tryz.prog 104 #[.agg #[.slice x.A x.row.length x.c, .int .i64 x.at', .int .i64 x.net], .agg #[.slice y.A y.row.length y.c, .int .i64 y.at', .int .i64 y.net]] w1 fun e w' => e = .returned (.int .i64 (cfE x y)) ∧ Below w1.heap.size w1 w' := by
 have hb : Below w.heap.size w w1 := hb3.trans (hs.below hb3.size (fun b h => by rw [show b = blk from h]; exact hbk)); refine (Eg.norm3_calls (edP x) (edP y) x.A y.A x.c y.c w1 (Kd.C_below hx.1.1 hb) (Kd.C_below hy.1.1 hb) hx.1.2 hy.1.2).mono fun e w' h => ?_
 refine ⟨?_, h.2⟩; rw [h.1]
 show Ending.returned (.int .i64 (orI (cmpR x.row y.row) (Cmp.icmp x.at' y.at'))) = _
 rw [cmpR_rC hx.2 hy.2]; unfold cfE keyC Cmp.pairC orI
 by_cases e0 : rC x.row y.row = 0
 ·rw [if_neg (by simp [e0]), if_pos e0]
 ·rw [if_pos e0, if_neg e0]
theorem normE_err (A0 : Option Addr) (c0 : Nat) (l : List EdP) (w : World) (hr0 : Kd.C kE w A0 l.length l) (hl : l.length ≤ 20) (h : l.any argE = true ∨ (l.any argE = false ∧ l.any (fun x => timeB x.f1) = true)) :
  Calls Tryz.prog 65 #[.slice A0 l.length c0] w fun e w' => e = .returned (.tuple #[.slice none 0 0, .int .i64 (if l.any argE = true then 2 else 13)]) ∧ Below w.heap.size w w' := by
 have F1 := Lib.hid (has_edge argE 100 A0 c0 l w (fun x A c w2 _ _ hC hc => Eg.norm1_calls x A c w2 hC hc) (Go.Proofs.enters_of Tryz.func100 zq17 rfl) hr0 zq4); have F2 := Lib.hid (fun (w1 : World) (hb : Below w.heap.size w w1) => has_edge (fun x => timeB x.f1) 101 A0 c0 l w1 (fun x A c w2 _ _ hC hc => Eg.norm2_calls x A c w2) (Go.Proofs.enters_of Tryz.func101 zq17 rfl) (Kd.C_below hr0 hb) zq4)
 rcases h with h | ⟨h, h2⟩
 ·rw [h] at F1
  rw [if_pos h]; clear hr0 hl h F2; go_enter Tryz.func65, Tryz.ntmps65
  go_wp2_with (with_reducible refine F1.out.mono ?_; rintro e w1 ⟨rfl, hb1⟩; have HB1 := Lib.hid hb1; clear hb1)
  go_ret2; exact ⟨rfl, HB1.out⟩
 ·rw [h] at F1
  rw [h2] at F2; rw [if_neg (by rw [h]; decide)]; clear hr0 hl h h2; go_enter Tryz.func65, Tryz.ntmps65
  go_wp2_with (first
   | (with_reducible refine F1.out.mono ?_; rintro e w1 ⟨rfl, hb1⟩; have HB1 := Lib.hid hb1; clear hb1)
   | (with_reducible refine (F2.out _ HB1.out).mono ?_; rintro e w2 ⟨rfl, hb2⟩; have HB2 := Lib.hid (HB1.out.trans (hb2.mono HB1.out.size)); clear hb2))
  go_ret2; exact ⟨rfl, HB2.out⟩
theorem sort_El {w w2 w3 : World} {v : Value} {g : Nat → El} {n : Nat} (hn : n ≤ 20) (hR : Kd.R kEl tE w3 w2.heap.size (fun _ => True) v (row g n)) (hb2 : Below w.heap.size w w2) (hb3 : Below w.heap.size w w3) (hok : ∀ i, i < n → OkEl w (g i) ∧ rowMay (g i).row = true) :
  ∃ A c, v = .slice A n c ∧ Calls Tryz.prog 103 #[.slice A n c, .func (.func 104) #[] #[]] w3 fun e w' => e = .returned (.tuple #[]) ∧ ∃ s, s.Perm (rowE g n) ∧ SortedE s ∧ s.length = n ∧ Kd.C kE w' A n s ∧ Below w.heap.size w w' := by
 rcases Nat.eq_zero_or_pos n with h0 | h0
 ·subst h0
  obtain ⟨_, inner, ho, hr⟩ := hR; rw [show (row g 0) = [] from rfl] at ho
  rcases ho.2 with ⟨rfl, _⟩ | ⟨b, cap, cur, rfl, hg, hh, h1, h2, h3, h4⟩
  ·exact ⟨none, 0, rfl, (SortE.sort_nil 0 _ w3).mono fun e w' h => ⟨h.1, [], List.Perm.refl _, List.Pairwise.nil, rfl, ⟨rfl, by omega, fun h => absurd h zq4⟩, by rw [h.2]; exact hb3⟩⟩
  ·refine ⟨_, cap, rfl, (SortE.sort_calls cfE cfE_ord (fun _ => False) b cap 0 104 zq4 (Go.Proofs.enters_of Tryz.func104 zq17 rfl) g w3 ⟨cur, hh, by omega, fun i j u hi _ => absurd hi (Nat.not_lt_zero _)⟩ (fun i hi => absurd hi (Nat.not_lt_zero _)) (fun x y w9 hx _ _ => hx.elim)).mono fun e w' h => ?_⟩
   ·obtain ⟨h0, g', _, _, _, hs, _⟩ := h
    exact ⟨h0, [], List.Perm.refl _, List.Pairwise.nil, rfl, ⟨rfl, by omega, fun h => absurd h zq4⟩, hb3.trans (hs.below hb3.size (fun b' hb' => by rw [show b' = b from hb']; exact Nat.le_trans hb2.size hg))⟩
 ·obtain ⟨b, cap, rfl, hbk, hH⟩ := holds_of_El hR h0
  have hbk' : w.heap.size ≤ b := Nat.le_trans hb2.size hbk; refine ⟨_, cap, rfl, (SortE.sort_calls cfE cfE_ord (fun x => OkEl w x ∧ rowMay x.row = true) b cap n 104 zq4 (Go.Proofs.enters_of Tryz.func104 zq17 rfl) g w3 hH hok (fun x y w9 hx hy hs => sort_hcmp hb3 hbk' x y w9 hx hy hs)).mono fun e w' h => ?_⟩; obtain ⟨h1, g', k1, k2, k3, k4, k5⟩ := h; have hbw : Below w.heap.size w w' := hb3.trans (k4.below hb3.size (fun b' hb' => by rw [show b' = b from hb']; exact hbk')); refine ⟨h1, rowE g' n, k5.map edP, sortedE_of k2, rowE_len _ _, C_of_holds k1 zq4 (fun i hi => ?_), hbw⟩; have hm : g' i ∈ row g n := k5.mem_iff.1 (List.mem_map.2 ⟨i, List.mem_range.2 hi, rfl⟩); obtain ⟨q, hq, e'⟩ := List.mem_map.1 hm; rw [← e']; have := (hok q (List.mem_range.1 hq)).1; exact ⟨Kd.C_below this.1 hbw, this.2⟩
theorem normE_ok (A0 : Option Addr) (c0 : Nat) (l : List EdP) (w : World) (hr0 : Kd.C kE w A0 l.length l) (hl : l.length ≤ 20) (h : l.any argE = false) (h2 : l.any (fun x => timeB x.f1) = false) :
  Calls Tryz.prog 65 #[.slice A0 l.length c0] w fun e w' => ∃ v s, s.Perm l ∧ SortedE s ∧ e = .returned (.tuple #[v, .int .i64 (mapP normJ s).2]) ∧ Kd.R kE tE w' w.heap.size (fun _ => True) v (mapP normJ s).1 ∧ Below w.heap.size w w' := by
 obtain ⟨g, hG, hrow, hok⟩ := els_of hr0; have hmay : ∀ i, i < l.length → rowMay (g i).row = true := by
  intro i hi; have hm : edP (g i) ∈ l := by
   rw [← hrow]; exact List.mem_map_of_mem (List.mem_map.2 ⟨i, List.mem_range.2 hi, rfl⟩)
  have := (List.any_eq_false.1 h) _ hm; exact argE_may (x := edP (g i)) (by simpa using this)
 have F1 := Lib.hid (has_edge argE 100 A0 c0 l w (fun x A c w2 _ _ hC hc => Eg.norm1_calls x A c w2 hC hc) (Go.Proofs.enters_of Tryz.func100 zq17 rfl) hr0 zq4); have F2 := Lib.hid (fun (w1 : World) (hb : Below w.heap.size w w1) => has_edge (fun x => timeB x.f1) 101 A0 c0 l w1 (fun x A c w2 _ _ hC hc => Eg.norm2_calls x A c w2) (Go.Proofs.enters_of Tryz.func101 zq17 rfl) (Kd.C_below hr0 hb) zq4); have F3 := Lib.hid (fun (w1 : World) (hb : Below w.heap.size w w1) => clone_El A0 c0 (row g l.length) w1 (by rw [row_len]; exact Kd.C_below hG hb) (by rw [row_len]; omega)); have F4 := Lib.hid (fun (v : Value) (w2 w3 : World) (hR : Kd.R kEl tE w3 w2.heap.size (fun _ => True) v (row g l.length)) (hb2 : Below w.heap.size w w2) (hb3 : Below w.heap.size w w3) => sort_El hl hR hb2 hb3 (fun i hi => ⟨hok i hi, hmay i hi⟩)); have F5 := Lib.hid (fun (A : Option Addr) (c : Nat) (s : List EdP) (w4 : World) (hp : s.Perm l) (hC : Kd.C kE w4 A s.length s) => mapped_calls normJ 108 #[] A c s w4 hC (by rw [hp.length_eq]; exact Nat.le_trans hl (Nat.le_of_ble_eq_true rfl)) (fun e he => by
  have := (List.any_eq_false.1 h) e (hp.mem_iff.1 he); have h3 := argE_may (x := e) (by simpa using this); unfold rowMay at h3; rw [Bool.and_eq_true] at h3; have := of_decide_eq_true h3.1; omega) (Go.Proofs.enters_of Tryz.func108 zq17 rfl) normJ_len (fun A c f W1 _ hfl hR => norm4_calls A c f W1 (Kd.R_reads' hR).2.2 (Kd.R_reads' hR).2.1 (by have := hp.length_eq; omega)))
 rw [row_len] at F3; rw [h] at F1; rw [h2] at F2; have HROW := Lib.hid hrow; clear hr0 hl h h2 hG hok hmay hrow; go_enter Tryz.func65, Tryz.ntmps65
 go_wp2_with (first
  | (with_reducible refine F1.out.mono ?_; rintro e w1 ⟨rfl, hb1⟩; have HB1 := Lib.hid hb1; clear hb1)
  | (with_reducible refine (F2.out _ HB1.out).mono ?_; rintro e w2 ⟨rfl, hb2⟩; have HB2 := Lib.hid (HB1.out.trans (hb2.mono HB1.out.size)); clear hb2)
  | (go_at_call 102; (with_reducible refine (F3.out _ HB2.out).mono ?_); rintro e w3 ⟨v4, rfl, hR, hb3⟩; have HB3 := Lib.hid (HB2.out.trans (hb3.mono HB2.out.size)); obtain ⟨A4, c4, rfl, hS⟩ := F4.out v4 w2 w3 hR HB2.out HB3.out; have SC := Lib.hid hS; clear hb3 hR hS)
  | (go_at_call 103; (with_reducible refine SC.out.mono ?_); rintro e w4 ⟨rfl, s, hp, hs, hsl, hC, hb4⟩; rw [HROW.out] at hp; rw [← hsl] at hC; have HP := Lib.hid hp; have HSO := Lib.hid hs; have HB4 := Lib.hid hb4; have MC := Lib.hid (F5.out A4 c4 s w4 hp hC); rw [hsl] at MC; clear hp hs hC hb4)
  | (go_at_call 107; (with_reducible refine MC.out.mono ?_); rintro e w5 ⟨v5, rfl, hR5, hb5⟩; have HR5 := Lib.hid hR5; have HB5 := Lib.hid (HB4.out.trans (hb5.mono HB4.out.size)); have HS4 := Lib.hid HB4.out.size; clear hR5 hb5))
 go_ret2; exact ⟨v5, s, HP.out, HSO.out, rfl, Kd.R_lower HR5.out HS4.out, HB5.out⟩
theorem NormE_calls (A0 : Option Addr) (c0 : Nat) (l : List EdP) (w : World) (hr0 : Kd.C kE w A0 l.length l) (hl : l.length ≤ 20) :
  Calls Tryz.prog 65 #[.slice A0 l.length c0] w fun e w' => ∃ v r, NormIs l r ∧ e = .returned (.tuple #[v, .int .i64 r.2]) ∧ Kd.R kE tE w' w.heap.size (fun _ => True) v r.1 ∧ Below w.heap.size w w' := by
 cases h : l.any argE with
 | true =>
  refine (normE_err A0 c0 l w hr0 hl (.inl h)).mono fun e w' z => ⟨_, ([], 2), .inl ⟨h, rfl⟩, ?_, Kd.R_nil _ _ _ _ _, z.2⟩
  rw [z.1, if_pos h]
 | false =>
  cases h2 : l.any (fun x => timeB x.f1) with
  | true =>
   refine (normE_err A0 c0 l w hr0 hl (.inr ⟨h, h2⟩)).mono fun e w' z => ⟨_, ([], 13), .inr (.inl ⟨h, h2, rfl⟩), ?_, Kd.R_nil _ _ _ _ _, z.2⟩
   rw [z.1, if_neg (by rw [h]; decide)]
  | false =>
   refine (normE_ok A0 c0 l w hr0 hl h h2).mono fun e w' ⟨v, s, hp, hs, he, hR, hb⟩ => ⟨v, mapP normJ s, .inr (.inr ⟨h, h2, s, hp, hs, rfl⟩), he, hR, hb⟩
end Go.Proofs.YtmkgecapkeojaaaGreat.Eg
end
section
namespace Go.Proofs.YtmkgecapkeojaaaGreat.Eg
open Go.Proofs.YtmkgecapkeojaaaGreat Go.Proofs.YtmkgecapkeojaaaGreat.PDa
open Go.RowKit Go.Proofs.YtmkgecapkeojaaaGreatW.PrintWords Go.Proofs.YtmkgecapkeojaaaGreatW.PrintLast Go.Proofs.YtmkgecapkeojaaaGreatW.PrintMore
open Go.Proofs.YtmkgecapkeojaaaGreat.SortM Go.Proofs.YtmkgecapkeojaaaGreat.Run Go.Proofs.YtmkgecapkeojaaaGreat.Stp Go.Proofs.YtmkgecapkeojaaaGreat.Rw
def buildP (r : List Vl) (f : List Jp) : List EdP := if (rowMay r && mayJ f) = true then putP [] r f else []
theorem rowMay_len {r : List Vl} (h : rowMay r = true) : r.length ≤ 8 := by
 unfold rowMay at h; rw [Bool.and_eq_true] at h; exact of_decide_eq_true h.1
theorem mayJ_len {f : List Jp} (h : mayJ f = true) : f.length ≤ 1024 := by
 unfold mayJ at h; rw [Bool.and_eq_true] at h; exact of_decide_eq_true h.1
theorem grown_none {W W1 : World} {v : Value} (hv : v.ownBlock = none) (h : W.grownBy W1 v.ownBlock) : Below W.heap.size W W1 := ⟨h.os, h.tape, h.output, h.size, fun b hb => h.block b hb (by rw [hv]; intro e; cases e)⟩
theorem Build_calls (A1 : Option Addr) (c1 : Nat) (r : List Vl) (A2 : Option Addr) (c2 : Nat) (f : List Jp) (w : World)
  (hr : Kd.R kV tV w 0 (fun _ => True) (.slice A1 r.length c1) r) (hf : Kd.R kJ tJ w 0 (fun _ => True) (.slice A2 f.length c2) f) :
  Calls Tryz.prog 49 #[.slice A1 r.length c1, .slice A2 f.length c2] w fun e w' => ∃ v1, e = .returned v1 ∧ Kd.R kE tE w' w.heap.size (fun _ => True) v1 (buildP r f) ∧ Below w.heap.size w w' := by
 have M := Lib.hid (fun (w1 : World) (h : Below w.heap.size w w1) => row_May.calls A1 c1 r (rowMay r) w1 (Kd.R_reads' (Kd.R_below hr h)).2.2 (Kd.R_reads' hr).2.1 rfl); have N := Lib.hid (fun (w1 : World) (h : Below w.heap.size w w1) => may_any A2 c2 f w1 (Kd.R_reads' (Kd.R_below hf h)).2.2 (Kd.R_reads' hf).2.1); obtain ⟨o, ho⟩ : ∃ o, buildP r f = o := ⟨_, rfl⟩
 rw [ho]; cases hm : rowMay r with
 | false =>
  rw [hm] at M; have HO := Lib.hid (show o = [] by rw [← ho]; unfold buildP; rw [hm]; rfl); clear hr hf ho hm; go_enter Tryz.func49, Tryz.ntmps49
  go_wp2_with (first | ((with_reducible refine (M.out _ (Below.refl _ _)).mono ?_); rintro e w1 ⟨rfl, hb1⟩; have HB1 := Lib.hid hb1; clear hb1))
  go_ret; exact ⟨_, rfl, by rw [HO.out]; exact Kd.R_nil _ _ _ _ _, HB1.out⟩
 | true =>
  rw [hm] at M; cases hj : mayJ f with
  | false =>
   rw [hj] at N; have HO := Lib.hid (show o = [] by rw [← ho]; unfold buildP; rw [hm, hj]; rfl); clear hr hf ho hm hj; go_enter Tryz.func49, Tryz.ntmps49
   go_wp2_with (first | ((with_reducible refine (M.out _ (Below.refl _ _)).mono ?_); rintro e w1 ⟨rfl, hb1⟩; have HB1 := Lib.hid hb1; clear hb1) | ((with_reducible refine (N.out _ HB1.out).mono ?_); rintro e w2 ⟨rfl, hb2⟩; have HB2 := Lib.hid (HB1.out.trans (hb2.mono HB1.out.size)); clear hb2))
   go_ret; exact ⟨_, rfl, by rw [HO.out]; exact Kd.R_nil _ _ _ _ _, HB2.out⟩
  | true =>
   rw [hj] at N; have HO := Lib.hid (show o = putP [] r f by rw [← ho]; unfold buildP; rw [hm, hj]; rfl); have h8 := rowMay_len hm; have h10 := mayJ_len hj; have P := Lib.hid (fun (w1 : World) (h : Below w.heap.size w w1) => put_calls w1.heap.size (fun _ => True) (.slice none 0 0) [] A1 c1 r A2 c2 f w1 (Kd.R_nil _ _ _ _ _) (Nat.le_refl _) (fun _ _ => trivial) (Kd.R_below hr h) (Kd.R_below hf h) zq4 zq33); clear hr hf ho hm hj h8 h10; go_enter Tryz.func49, Tryz.ntmps49
   go_wp2_with (first | ((with_reducible refine (M.out _ (Below.refl _ _)).mono ?_); rintro e w1 ⟨rfl, hb1⟩; have HB1 := Lib.hid hb1; clear hb1) | ((with_reducible refine (N.out _ HB1.out).mono ?_); rintro e w2 ⟨rfl, hb2⟩; have HB2 := Lib.hid (HB1.out.trans (hb2.mono HB1.out.size)); clear hb2) | ((with_reducible refine (P.out _ HB2.out).mono ?_); rintro e w3 ⟨v3, rfl, hR, hg, _⟩; have HB3 := Lib.hid (HB2.out.trans ((grown_none rfl hg).mono HB2.out.size)); have HR3 := Lib.hid (Kd.R_lower hR HB2.out.size); clear hR hg))
   go_ret; exact ⟨_, rfl, by rw [HO.out]; exact HR3.out, HB3.out⟩
end Go.Proofs.YtmkgecapkeojaaaGreat.Eg
end
