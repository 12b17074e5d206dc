/- Texts of this claim, put together by a program: Live, LawF, LiveP, LawFW, WSized. -/
import Derived.Test.YtmkgecapkeojaaaGreatM15
import Derived.SizedLaws
import Derived.ChangeSlices
set_option linter.unusedVariables false
set_option linter.unusedSimpArgs false
set_option maxHeartbeats 8000000
set_option maxRecDepth 100000
section
namespace Go.Proofs.YtmkgecapkeojaaaGreat.Eg
open Go.Proofs.YtmkgecapkeojaaaGreat Go.Proofs.YtmkgecapkeojaaaGreat.PDa
open Go.RowKit Go.Proofs.YtmkgecapkeojaaaGreatW.PrintWords Go.Proofs.YtmkgecapkeojaaaGreatW.PrintLast Go.Proofs.YtmkgecapkeojaaaGreatW.PrintMore
open Go.Proofs.YtmkgecapkeojaaaGreat.Stp Go.Proofs.YtmkgecapkeojaaaGreat.Rw
structure Hold (p : Prop) : Prop where
 out : p
theorem hold_intro {p : Prop} (h : Hold p) : p := h.out
def v1 : Vl := ⟨1, 1, ⟨#[]⟩⟩
def v2 : Vl := ⟨1, 2, ⟨#[]⟩⟩
def e1 : EdP := ⟨[v1], 2, 1⟩
def e2 : EdP := ⟨[v1], 5, -1⟩
def e3 : EdP := ⟨[v2], 5, 1⟩
def lxw : List Op8 := [⟨3, 0, ⟨#[]⟩⟩, ⟨1, 2, ⟨#[]⟩⟩, ⟨13, 0, ⟨#[]⟩⟩]
def pxw : List Op8 := [⟨1, 7, ⟨#[]⟩⟩]
theorem C_lit {α : Type} {d : Kd α} {W : World} {B : Nat} {t : TypeId} {cs : Array Value} {ps qs : List α} {inner : List Value} {n : Nat} (hq : ps = qs) (hb : W.heap[B]? = some (.cells cs t (0, 0))) (hi : cs.toList = inner) (hn : qs.length = n) (hn2 : n ≤ 100) (hr : Reps (d.K W) d.sz ps inner) : Kd.C d W (some ⟨B, 0, none⟩) n qs := by
 subst hq; subst hn; have ho : OwnRow (d.K W) t d.sz W 0 (.slice (some ⟨B, 0, none⟩) ps.length ps.length) ps := ⟨inner, ⟨hr.1, .inr ⟨B, ps.length, cs, rfl, Nat.zero_le _, hb, Nat.le_refl _, by unfold maxLen; omega, by rw [← Array.length_toList, hi, hr.1], by rw [hi, List.take_of_length_le (by rw [hr.1]; exact Nat.le_refl _)]⟩⟩, hr⟩
 obtain ⟨A, c, he, _, h⟩ := OwnRow.reads ho; cases he; exact h
theorem live_calls (w : World) (fA : PDd.linear_Filter.f [e1, e2, e3] lxw = some ([e3], 0)) (fB : PDd.linear_Project.f [e1, e2, e3] [pxw] = some ([⟨[⟨1, 7, ⟨#[]⟩⟩], 2, 1⟩], 0)) :
  Calls Tryz.prog 17 #[] w fun e w' => e = .returned (.bool true) ∧ Below w.heap.size w w' := by
 go_enter Tryz.func17, Tryz.ntmps17
 go_wp2_with (go_at_call 18; refine hold_intro ?_)
 refine ⟨?_⟩; obtain ⟨W1, hW1⟩ : ∃ W1, ((((w.alloc (.cells #[.int .i64 1, .int .i64 1, .string ⟨#[]⟩] 65 (0, 0))).alloc (.cells #[.int .i64 1, .int .i64 1, .string ⟨#[]⟩] 65 (0, 0))).alloc (.cells #[.int .i64 1, .int .i64 2, .string ⟨#[]⟩] 65 (0, 0))).alloc (.cells #[.slice (some ⟨w.heap.size, 0, none⟩) 1 1, .int .i64 2, .int .i64 1, .slice (some ⟨w.heap.size + 1, 0, none⟩) 1 1, .int .i64 5, .int .i64 (-1), .slice (some ⟨w.heap.size + 1 + 1, 0, none⟩) 1 1, .int .i64 5, .int .i64 1] 41 (0, 0))).alloc (.cells #[.int .i64 3, .int .i64 0, .string ⟨#[]⟩, .int .i64 1, .int .i64 2, .string ⟨#[]⟩, .int .i64 13, .int .i64 0, .string ⟨#[]⟩] 68 (0, 0)) = W1 := ⟨_, rfl⟩
 have hsW1 : W1.heap.size = w.heap.size + 5 := by rw [← hW1]; simp
 have hbW1 : Below w.heap.size w W1 := by rw [← hW1]; exact below_alloc (below_alloc (below_alloc (below_alloc (below_alloc (Below.refl _ w) _) _) _) _) _
 have k0 : W1.heap[w.heap.size]? = some (.cells #[.int .i64 1, .int .i64 1, .string ⟨#[]⟩] 65 (0, 0)) := by
  have h1 := blk_new (w) (.cells #[.int .i64 1, .int .i64 1, .string ⟨#[]⟩] 65 (0, 0)); rw [← hW1]; exact blk_alloc (blk_alloc (blk_alloc (blk_alloc (h1) _) _) _) _
 have k1 : W1.heap[w.heap.size + 1]? = some (.cells #[.int .i64 1, .int .i64 1, .string ⟨#[]⟩] 65 (0, 0)) := by
  have h1 := blk_new (w.alloc (.cells #[.int .i64 1, .int .i64 1, .string ⟨#[]⟩] 65 (0, 0))) (.cells #[.int .i64 1, .int .i64 1, .string ⟨#[]⟩] 65 (0, 0)); rw [World.size_alloc] at h1; rw [← hW1]; exact blk_alloc (blk_alloc (blk_alloc (h1) _) _) _
 have k2 : W1.heap[w.heap.size + 1 + 1]? = some (.cells #[.int .i64 1, .int .i64 2, .string ⟨#[]⟩] 65 (0, 0)) := by
  have h1 := blk_new ((w.alloc (.cells #[.int .i64 1, .int .i64 1, .string ⟨#[]⟩] 65 (0, 0))).alloc (.cells #[.int .i64 1, .int .i64 1, .string ⟨#[]⟩] 65 (0, 0))) (.cells #[.int .i64 1, .int .i64 2, .string ⟨#[]⟩] 65 (0, 0)); rw [World.size_alloc, World.size_alloc] at h1; rw [← hW1]; exact blk_alloc (blk_alloc (h1) _) _
 have k3 : W1.heap[w.heap.size + 1 + 1 + 1]? = some (.cells #[.slice (some ⟨w.heap.size, 0, none⟩) 1 1, .int .i64 2, .int .i64 1, .slice (some ⟨w.heap.size + 1, 0, none⟩) 1 1, .int .i64 5, .int .i64 (-1), .slice (some ⟨w.heap.size + 1 + 1, 0, none⟩) 1 1, .int .i64 5, .int .i64 1] 41 (0, 0)) := by
  have h1 := blk_new (((w.alloc (.cells #[.int .i64 1, .int .i64 1, .string ⟨#[]⟩] 65 (0, 0))).alloc (.cells #[.int .i64 1, .int .i64 1, .string ⟨#[]⟩] 65 (0, 0))).alloc (.cells #[.int .i64 1, .int .i64 2, .string ⟨#[]⟩] 65 (0, 0))) (.cells #[.slice (some ⟨w.heap.size, 0, none⟩) 1 1, .int .i64 2, .int .i64 1, .slice (some ⟨w.heap.size + 1, 0, none⟩) 1 1, .int .i64 5, .int .i64 (-1), .slice (some ⟨w.heap.size + 1 + 1, 0, none⟩) 1 1, .int .i64 5, .int .i64 1] 41 (0, 0)); rw [World.size_alloc, World.size_alloc, World.size_alloc] at h1; rw [← hW1]; exact blk_alloc (h1) _
 have k4 : W1.heap[w.heap.size + 1 + 1 + 1 + 1]? = some (.cells #[.int .i64 3, .int .i64 0, .string ⟨#[]⟩, .int .i64 1, .int .i64 2, .string ⟨#[]⟩, .int .i64 13, .int .i64 0, .string ⟨#[]⟩] 68 (0, 0)) := by
  have h1 := blk_new ((((w.alloc (.cells #[.int .i64 1, .int .i64 1, .string ⟨#[]⟩] 65 (0, 0))).alloc (.cells #[.int .i64 1, .int .i64 1, .string ⟨#[]⟩] 65 (0, 0))).alloc (.cells #[.int .i64 1, .int .i64 2, .string ⟨#[]⟩] 65 (0, 0))).alloc (.cells #[.slice (some ⟨w.heap.size, 0, none⟩) 1 1, .int .i64 2, .int .i64 1, .slice (some ⟨w.heap.size + 1, 0, none⟩) 1 1, .int .i64 5, .int .i64 (-1), .slice (some ⟨w.heap.size + 1 + 1, 0, none⟩) 1 1, .int .i64 5, .int .i64 1] 41 (0, 0))) (.cells #[.int .i64 3, .int .i64 0, .string ⟨#[]⟩, .int .i64 1, .int .i64 2, .string ⟨#[]⟩, .int .i64 13, .int .i64 0, .string ⟨#[]⟩] 68 (0, 0)); rw [World.size_alloc, World.size_alloc, World.size_alloc, World.size_alloc] at h1; rw [← hW1]; exact h1
 rw [hW1]; have r1 : ∀ (b : Nat) (v : Vl), W1.heap[b]? = some (.cells #[.int .i64 v.f0, .int .i64 v.f1, .string v.f2] 65 (0, 0)) → Kd.C kV W1 (some ⟨b, 0, none⟩) 1 [v] := fun b v h => by
  refine C_lit (d := kV) (ps := [] ++ [v]) (inner := [] ++ [.int .i64 v.f0, .int .i64 v.f1, .string v.f2]) rfl h rfl rfl zq34 (Reps.snoc (ps := []) (p := v) (Reps.none (kV.K W1) kV.sz) (k65_mk W1 v) rfl)
 have hC : Kd.C kE W1 (some ⟨w.heap.size + 1 + 1 + 1, 0, none⟩) 3 [e1, e2, e3] :=
  C_lit (d := kE) (ps := [] ++ [e1] ++ [e2] ++ [e3]) (inner := [] ++ [.slice (some ⟨w.heap.size, 0, none⟩) 1 1, .int .i64 2, .int .i64 1] ++ [.slice (some ⟨w.heap.size + 1, 0, none⟩) 1 1, .int .i64 5, .int .i64 (-1)] ++ [.slice (some ⟨w.heap.size + 1 + 1, 0, none⟩) 1 1, .int .i64 5, .int .i64 1]) rfl k3 rfl rfl zq34
   ((((Reps.none (kE.K W1) kE.sz).snoc (p := e1) (k41_mk W1 e1 (Nat.le_refl 1) (r1 _ v1 k0)) rfl).snoc (p := e2) (k41_mk W1 e2 (Nat.le_refl 1) (r1 _ v1 k1)) rfl).snoc (p := e3) (k41_mk W1 e3 (Nat.le_refl 1) (r1 _ v2 k2)) rfl)
 have hX : Kd.C kO W1 (some ⟨w.heap.size + 1 + 1 + 1 + 1, 0, none⟩) 3 lxw :=
  C_lit (d := kO) (ps := [] ++ [(⟨3, 0, ⟨#[]⟩⟩ : Op8)] ++ [⟨1, 2, ⟨#[]⟩⟩] ++ [⟨13, 0, ⟨#[]⟩⟩]) (inner := [] ++ [.int .i64 3, .int .i64 0, .string ⟨#[]⟩] ++ [.int .i64 1, .int .i64 2, .string ⟨#[]⟩] ++ [.int .i64 13, .int .i64 0, .string ⟨#[]⟩]) rfl k4 rfl rfl zq34
   ((((Reps.none (kO.K W1) kO.sz).snoc (p := ⟨3, 0, ⟨#[]⟩⟩) (k68_mk W1 _) rfl).snoc (p := ⟨1, 2, ⟨#[]⟩⟩) (k68_mk W1 _) rfl).snoc (p := ⟨13, 0, ⟨#[]⟩⟩) (k68_mk W1 _) rfl)
 have HC := Lib.hid hC; have HB1 := Lib.hid hbW1; have FC := Lib.hid (PDd.linear_Filter.calls (some ⟨w.heap.size + 1 + 1 + 1, 0, none⟩) 3 [e1, e2, e3] (some ⟨w.heap.size + 1 + 1 + 1 + 1, 0, none⟩) 3 lxw [e3] 0 W1 hC (Nat.le_refl 3) hX (Nat.le_refl 3) fA); clear hC hX r1 k0 k1 k2 k3 k4 hW1 hsW1 hbW1; refine FC.out.mono ?_; rintro e w2 ⟨va, rfl, hRa, hb2⟩; obtain ⟨Aa, ca, rfl⟩ := Kd.R_slice hRa; have HRA := Lib.hid hRa; have HB2 := Lib.hid (HB1.out.trans (hb2.mono HB1.out.size)); have HC2 := Lib.hid (Kd.C_below HC.out hb2); clear hRa hb2
 go_wp2_with (go_at_call 21; refine hold_intro ?_)
 refine ⟨?_⟩; obtain ⟨W3, hW3⟩ : ∃ W3, (w2.alloc (.cells #[.int .i64 1, .int .i64 7, .string ⟨#[]⟩] 68 (0, 0))).alloc (.cells #[.slice (some ⟨w2.heap.size, 0, none⟩) 1 1] 24 (0, 0)) = W3 := ⟨_, rfl⟩
 have hsW3 : W3.heap.size = w2.heap.size + 2 := by rw [← hW3]; simp
 have hbW3 : Below w2.heap.size w2 W3 := by rw [← hW3]; exact below_alloc (below_alloc (Below.refl _ w2) _) _
 have k5 : W3.heap[w2.heap.size]? = some (.cells #[.int .i64 1, .int .i64 7, .string ⟨#[]⟩] 68 (0, 0)) := by
  have h1 := blk_new (w2) (.cells #[.int .i64 1, .int .i64 7, .string ⟨#[]⟩] 68 (0, 0)); rw [← hW3]; exact blk_alloc (h1) _
 have k6 : W3.heap[w2.heap.size + 1]? = some (.cells #[.slice (some ⟨w2.heap.size, 0, none⟩) 1 1] 24 (0, 0)) := by
  have h1 := blk_new (w2.alloc (.cells #[.int .i64 1, .int .i64 7, .string ⟨#[]⟩] 68 (0, 0))) (.cells #[.slice (some ⟨w2.heap.size, 0, none⟩) 1 1] 24 (0, 0)); rw [World.size_alloc] at h1; rw [← hW3]; exact h1
 rw [hW3]; have hY : Kd.C kO W3 (some ⟨w2.heap.size, 0, none⟩) 1 pxw :=
  C_lit (d := kO) (ps := [] ++ [(⟨1, 7, ⟨#[]⟩⟩ : Op8)]) (inner := [] ++ [.int .i64 1, .int .i64 7, .string ⟨#[]⟩]) rfl k5 rfl rfl zq34
   ((Reps.none (kO.K W3) kO.sz).snoc (p := ⟨1, 7, ⟨#[]⟩⟩) (k68_mk W3 _) rfl)
 have hZ : Kd.C (Kd.slice 68 kO) W3 (some ⟨w2.heap.size + 1, 0, none⟩) 1 [pxw] :=
  C_lit (d := Kd.slice 68 kO) (ps := [] ++ [pxw]) (inner := [] ++ [.slice (some ⟨w2.heap.size, 0, none⟩) 1 1]) rfl k6 rfl rfl zq34
   ((Reps.none ((Kd.slice 68 kO).K W3) (Kd.slice 68 kO).sz).snoc (p := pxw) (show (Kd.slice 68 kO).K W3 pxw [.slice (some ⟨w2.heap.size, 0, none⟩) 1 1] from ⟨_, _, rfl, Nat.le_refl _, hY⟩) rfl)
 have HB3 := Lib.hid (HB2.out.trans (hbW3.mono HB2.out.size)); have HC3 := Lib.hid (Kd.C_below HC2.out hbW3); have HRA3 := Lib.hid (Kd.R_below HRA.out hbW3); have GC := Lib.hid (PDd.linear_Project.calls (some ⟨w.heap.size + 1 + 1 + 1, 0, none⟩) 3 [e1, e2, e3] (some ⟨w2.heap.size + 1, 0, none⟩) 1 [pxw] [⟨[⟨1, 7, ⟨#[]⟩⟩], 2, 1⟩] 0 W3 HC3.out (Nat.le_refl 3) hZ (Nat.le_refl 1) fB); clear hY hZ k5 k6 hW3 hsW3 hbW3 FC HC HC2 HRA HB1 HB2; refine GC.out.mono ?_; rintro e w4 ⟨vb, rfl, hRb, hb4⟩; obtain ⟨Ab, cb, rfl⟩ := Kd.R_slice hRb; have HRB := Lib.hid hRb; have HB4 := Lib.hid (HB3.out.trans (hb4.mono HB3.out.size)); have HC4 := Lib.hid (Kd.C_below HC3.out hb4); have HRA4 := Lib.hid (Kd.R_below HRA3.out hb4); clear hRb hb4 GC HB3 HC3 HRA3; have hrb := (Kd.R_reads' HRB.out).2.2; obtain ⟨ad, Ay, cy, ea, y0, y1, y2, y3, y4⟩ := at_T41 hrb (0 : Int) zq34 zq30; cases ea; have Y1 : w4.cell? ⟨ad.block, ad.off + 1, none⟩ = some (.int .i64 2) := by simpa [Addr.add, rd_T41] using y1
 have Y2 : w4.cell? ⟨ad.block, ad.off + 2, none⟩ = some (.int .i64 1) := by simpa [Addr.add, rd_T41] using y2
 have HY1 := Lib.hid Y1; have HY2 := Lib.hid Y2; clear y0 y1 y2 y3 y4 hrb Y1 Y2; obtain ⟨i0, hi0, p1, hsz0, p2⟩ := info_parts info41; have hcut0 := cut_from (P := Tryz.prog) 22 41 .i64 Tryz.underlying22 hi0 3 hsz0 (some ⟨w.heap.size + 1 + 1 + 1, 0, none⟩) 3 3 2 zq34 zq34; have hdr := Kd.C_drop (c := 3) (m := 2) HC4.out zq34 zq34; obtain ⟨A5, hA5⟩ : ∃ A1, A1 = (if 3 = 2 then (some ⟨w.heap.size + 1 + 1 + 1, 0, none⟩ : Option Addr) else (some (⟨w.heap.size + 1 + 1 + 1, 0, none⟩ : Addr)).map (·.add (2 * 3))) := ⟨_, rfl⟩
 have hcut : ∀ W : World, (Instr.slice 22 (.slice (some ⟨w.heap.size + 1 + 1 + 1, 0, none⟩) 3 3) (some (.int .i64 2)) none none).run Tryz.prog W = .ok (.slice A5 1 1) W := by
  intro W; rw [hA5]; exact hcut0 W
 have hC5 : Kd.C kE w4 A5 1 [e3] := by
  rw [hA5]; exact hdr
 have SC := Lib.hid (fun k h => r10_Same.calls k Aa ca [e3] A5 1 [e3] true w4 (Kd.R_reads' HRA4.out).2.2 (Kd.R_reads' HRA4.out).2.1 hC5 (Nat.le_refl 1) h); clear hcut0 hdr hA5 hC5 hi0 hsz0 p1 p2 i0
 go_wp2_with (go_at_call 20; refine hold_intro ?_)
 refine ⟨?_⟩; obtain ⟨N, hN⟩ := same10 [e3] zq34 zq34; refine (SC.out N (hN N (Nat.le_refl _))).mono ?_; rintro e w5 ⟨rfl, hb5⟩; have HB5 := Lib.hid (HB4.out.trans (hb5.mono HB4.out.size)); have z1 := pw_cell_below hb5 HY1.out; have z2 := pw_cell_below hb5 HY2.out; clear SC HB4 HRA4 HC4 HRB HY1 HY2 hb5; go_wp2; go_ret; exact ⟨rfl, HB5.out⟩
theorem filters_calls (fA : PDd.linear_Filter.f [e1, e2, e3] lxw = some ([e3], 0)) (fB : PDd.linear_Project.f [e1, e2, e3] [pxw] = some ([⟨[⟨1, 7, ⟨#[]⟩⟩], 2, 1⟩], 0))
  (A0 : Option Addr) (c0 : Nat) (l : List EdP) (A1 : Option Addr) (c1 : Nat) (x : List Op8) (w : World) (hr0 : Kd.C kE w A0 l.length l) (hc0 : l.length ≤ c0) (hr1 : Kd.C kO w A1 x.length x) (hc1 : x.length ≤ c1) (hl : PDd.okEs l = true) (hx : PDd.okXs x = true) :
  Calls Tryz.prog 3 #[.slice A0 l.length c0, .slice A1 x.length c1] w fun e w' => e = .returned (.bool true) ∧ Below w.heap.size w w' := by
 have HR0 := Lib.hid hr0; have HC0 := Lib.hid hc0; have HR1 := Lib.hid hr1; have HC1 := Lib.hid hc1; have HL := Lib.hid hl; have HX := Lib.hid hx; have HFA := Lib.hid fA; have HFB := Lib.hid fB; have FW := Lib.hid (w22_few.calls A0 c0 l (decide ((l.length : Int) ≤ 60)) w hr0 hc0 rfl); clear hr0 hc0 hr1 hc1 hl hx fA fB; go_enter Tryz.func3, Tryz.ntmps3
 go_wp2_with (go_at_call 16; refine hold_intro ?_)
 refine ⟨?_⟩; refine FW.out.mono ?_; rintro e w1 ⟨rfl, hd1⟩; have HB1 := Lib.hid (show Below w.heap.size w w1 from hd1.below); clear hd1 FW
 by_cases hfew : l.length ≤ 60
 case neg =>
  have hf : decide ((l.length : Int) ≤ 60) = false := decide_eq_false zq4; rw [hf]
  go_wp2_with (go_at_call 17; refine hold_intro ?_)
  refine ⟨?_⟩; refine (live_calls w1 HFA.out HFB.out).mono ?_; rintro e w2 ⟨rfl, hb2⟩; have HB2 := Lib.hid (HB1.out.trans (hb2.mono HB1.out.size)); go_wp2; go_ret; exact ⟨rfl, HB2.out⟩
 case pos =>
  have hf : decide ((l.length : Int) ≤ 60) = true := decide_eq_true zq4; rw [hf]; have HFew := Lib.hid hfew; clear hfew hf; obtain ⟨F, hF⟩ : ∃ F, filterP (EvP.holdsV x) (EvP.formV x) l = F := ⟨_, rfl⟩
  have hsub := filterP_sub (EvP.holdsV x) (EvP.formV x) l; rw [hF] at hsub; obtain ⟨G, g⟩ := F; have FC := Lib.hid (PDd.linear_Filter.calls A0 c0 l A1 c1 x G g w1 (Kd.C_below HR0.out HB1.out) HC0.out (Kd.C_below HR1.out HB1.out) HC1.out (by unfold PDd.linear_Filter.f; rw [HL.out, HX.out, hF]; rfl)); have hrow := PDd.okEs_row HL.out; obtain ⟨N, hN⟩ := ref22 x l (PDd.okX HL.out HX.out) (by have := HFew.out; omega) hrow; have HRF := Lib.hid (hN N (Nat.le_refl _)); rw [hF] at HRF; obtain ⟨M, hM⟩ := same10 G (by have := HFew.out; have := hsub.2; simp only at this; omega) (fun e he => hrow e (hsub.1 e he)); have HSM := Lib.hid (hM M (Nat.le_refl _)); clear hN hM hrow hsub hF
  go_wp2_with (go_at_call 18; refine hold_intro ?_)
  refine ⟨?_⟩; refine FC.out.mono ?_; rintro e w2 ⟨va, rfl, hRa, hb2⟩; obtain ⟨Aa, ca, rfl⟩ := Kd.R_slice hRa; have HB2 := Lib.hid (HB1.out.trans (hb2.mono HB1.out.size)); have HRA := Lib.hid hRa; clear hRa hb2 FC
  go_wp2_with (go_at_call 19; refine hold_intro ?_)
  refine ⟨?_⟩; refine (r22_Filter.calls N (fun k_ => k_ < w2.heap.size) A0 c0 l A1 c1 x G g w2 (Kd.V_mk HC0.out (Kd.F_below (Kd.C_F k41_heap (Kd.C_below HR0.out HB2.out)) (Below.refl _ _))) (Kd.C_below HR1.out HB2.out) HC1.out HRF.out).mono ?_; rintro e w3 ⟨vb, rfl, hNb, hb3⟩; obtain ⟨Ab, cb, rfl⟩ := Kd.N_slice hNb; have HB3 := Lib.hid (HB2.out.trans (hb3.mono HB2.out.size)); have HRA3 := Lib.hid (Kd.R_below HRA.out hb3); have HNB := Lib.hid hNb; clear hNb hb3 HRA HRF
  go_wp2_with (go_at_call 17; refine hold_intro ?_)
  refine ⟨?_⟩; refine (live_calls w3 HFA.out HFB.out).mono ?_; rintro e w4 ⟨rfl, hb4⟩; have HB4 := Lib.hid (HB3.out.trans (hb4.mono HB3.out.size)); have SC := Lib.hid (r10_Same.calls M Aa ca G Ab cb G true w4 (Kd.C_below (Kd.R_reads' HRA3.out).2.2 hb4) (Kd.R_reads' HRA3.out).2.1 (Kd.C_below (Kd.N_reads' HNB.out).2.2 hb4) (Kd.N_reads' HNB.out).2.1 HSM.out); clear hb4 HRA3 HNB HSM HB3
  go_wp2_with (go_at_call 20; refine hold_intro ?_)
  refine ⟨?_⟩; refine SC.out.mono ?_; rintro e w5 ⟨rfl, hb5⟩; have HB5 := Lib.hid (HB4.out.trans (hb5.mono HB4.out.size)); clear hb5; go_wp2; go_ret; exact ⟨rfl, HB5.out⟩
end Go.Proofs.YtmkgecapkeojaaaGreat.Eg
end
section
namespace Go.Proofs.YtmkgecapkeojaaaGreat.Eg
open Go.Proofs.YtmkgecapkeojaaaGreat Go.Proofs.YtmkgecapkeojaaaGreat.PDa Go.Proofs.YtmkgecapkeojaaaGreat.EvP
open Go.RowKit Go.Proofs.YtmkgecapkeojaaaGreatW.PrintWords Go.Proofs.YtmkgecapkeojaaaGreatW.PrintLast Go.Proofs.YtmkgecapkeojaaaGreatW.PrintMore
open Go.Proofs.YtmkgecapkeojaaaGreat.Stp Go.Proofs.YtmkgecapkeojaaaGreat.Rw
theorem nilT : (⟨#[]⟩ : ByteArray).toList = [] := (toList_nil_iff_emptyBytes _).2 rfl
def ltw : T := .b ⟨13, 0, ⟨#[]⟩⟩ (.l ⟨3, 0, ⟨#[]⟩⟩) (.l ⟨1, 2, ⟨#[]⟩⟩)
theorem ltw_ok : ltw.ok := by
 refine ⟨?_, by decide, ⟨?_, by decide⟩, ⟨?_, by decide⟩⟩ <;> simp [okW, noT, nilT, takes]
theorem lxw_form : formV lxw = 0 := by
 have h := parse_fl ltw ltw_ok [] []; rw [List.append_nil] at h; have e : ltw.fl = lxw := rfl; unfold formV; rw [if_neg zq34, ← e, h]; rfl
theorem rowMay1 (a : Int) : rowMay [⟨1, a, ⟨#[]⟩⟩] = true := by simp [rowMay, thOf, nilT]
theorem thO_num (a : Int) : thO (Th.num a) = some (Th.num a) := by
 simp [thO, thVal3, thOf]
theorem lx_v1 : holdsV lxw [v1] = (false, 0) := by
 have e : ltw.fl = lxw := rfl; have h : evalV lxw [v1] = (1, 0, ⟨#[]⟩, 0) := by
  rw [← e, evalV_T ltw ltw_ok [v1] (by rw [e]; exact lxw_form) (rowMay1 1)]; simp [T.ev, ltw, evL, evB, v1, compareS, getTh, rd_T65, outV, thVal3, Except.map]; simp only [thO_num]
  rfl
 unfold holdsV; rw [h]
 rfl
theorem lx_v2 : holdsV lxw [v2] = (true, 0) := by
 have e : ltw.fl = lxw := rfl; have h : evalV lxw [v2] = (1, 1, ⟨#[]⟩, 0) := by
  rw [← e, evalV_T ltw ltw_ok [v2] (by rw [e]; exact lxw_form) (rowMay1 2)]; simp [T.ev, ltw, evL, evB, v2, compareS, getTh, rd_T65, outV, thVal3, Except.map]; simp only [thO_num]
  rfl
 unfold holdsV; rw [h]
 rfl
def ptw : T := .l ⟨1, 7, ⟨#[]⟩⟩
theorem ptw_ok : ptw.ok := by
 refine ⟨?_, by decide⟩ ; simp [okW, noT, nilT, takes]
theorem pxw_form : formV pxw = 0 := by
 have h := parse_fl ptw ptw_ok [] []; rw [List.append_nil] at h; have e : ptw.fl = pxw := rfl; unfold formV; rw [if_neg zq34, ← e, h]; rfl
theorem px_v (a : Int) : evalV pxw [⟨1, a, ⟨#[]⟩⟩] = (1, 7, ⟨#[]⟩, 0) := by
 have e : ptw.fl = pxw := rfl; rw [← e, evalV_T ptw ptw_ok _ (by rw [e]; exact pxw_form) (rowMay1 a)]
 rfl
theorem eq11 : eqR [v1] [v1] = true := eqR_refl _
theorem eq12 : eqR [v1] [v2] = false := by
 cases h : eqR [v1] [v2] with
 | false => rfl
 | true =>
  have := (eqR_iff _ _).1 h; simp [v1, v2] at this
theorem cmp12 : cmpR [v1] [v2] < 0 := by
 rw [cmpR_rC (show rowMay [v1] = true from rowMay1 1) (show rowMay [v2] = true from rowMay1 2)]
 decide
theorem eqR_comm {a b : List Rw.Vl} (h : eqR a b = false) : eqR b a = false := by
 cases h2 : eqR b a with
 | false => rfl
 | true =>
  have := (eqR_iff _ _).1 h2; subst this; rw [eqR_refl] at h; exact h
theorem runsL : runsP [e1, e2, e3] = [([v1], [⟨2, 1⟩, ⟨5, -1⟩]), ([v2], [⟨5, 1⟩])] := by
 simp [runsP, runAt, e1, e2, e3, eq11, eqR_comm eq12, jmpE]
theorem mayL3 : mayE [e1, e2, e3] = true := by
 unfold mayE eachP; rw [runsL]; simp only [eachR, lastB, decide_eq_true cmp12]; have r1 : rowMay [v1] = true := rowMay1 1; have r2 : rowMay [v2] = true := rowMay1 2; rw [r1, r2]
 decide
theorem factA : PDd.linear_Filter.f [e1, e2, e3] lxw = some ([e3], 0) := by
 unfold PDd.linear_Filter.f; rw [if_pos zq34]; have h : filterP (holdsV lxw) (formV lxw) [e1, e2, e3] = ([e3], 0) := by
  unfold filterP; rw [if_pos mayL3, lxw_form, if_neg zq34, runsL]; simp only [filR, lx_v1, lx_v2]; have r2 : rowMay [v2] = true := rowMay1 2; have b : buildP [v2] [⟨5, 1⟩] = [e3] := by
   unfold buildP; rw [r2]
   rfl
  rw [b]; simp
 rw [h]
def rw7 : List Rw.Vl := [⟨1, 7, ⟨#[]⟩⟩]
theorem rw7_may : rowMay rw7 = true := rowMay1 7
def becL : List EdP := [⟨rw7, 2, 1⟩, ⟨rw7, 5, -1⟩, ⟨rw7, 5, 1⟩]
theorem normL : normV becL = ([⟨rw7, 2, 1⟩], 0) := by
 unfold normV; rw [if_neg (by simp [becL, argE, rw7_may]), if_neg (by simp [becL, timeB])]; have hr : rowsOf becL = [rw7] := inc_uniq _ _ (rowsOf_inc _) (by simp [Inc]) (fun z => by
  rw [rowsOf_mem]
  constructor
  ·rintro ⟨e, he, rfl⟩
   simp only [becL, List.mem_cons, List.not_mem_nil, or_false] at he
   rcases he with rfl | rfl | rfl <;> simp
  ·intro h
   simp only [List.mem_singleton] at h; exact ⟨⟨rw7, 2, 1⟩, by simp [becL], h.symm⟩)
 have hj : jumpsOf becL rw7 = [⟨2, 1⟩, ⟨5, -1⟩, ⟨5, 1⟩] := by
  simp [jumpsOf, becL, eqR_refl, jmpE]
 have hn : normJ [⟨2, 1⟩, ⟨5, -1⟩, ⟨5, 1⟩] = ([⟨2, 1⟩], 0) := by rfl
 unfold groups; rw [hr]; simp only [List.map_cons, List.map_nil, hj, mapR, hn]
 rfl
theorem factB : PDd.linear_Project.f [e1, e2, e3] [pxw] = some ([⟨[⟨1, 7, ⟨#[]⟩⟩], 2, 1⟩], 0) := by
 have p1 : projR evalV [v1] [] [pxw] = (rw7, 0) := by
  simp only [projR]; rw [show evalV pxw [v1] = (1, 7, ⟨#[]⟩, 0) from px_v 1]
  rfl
 have p2 : projR evalV [v2] [] [pxw] = (rw7, 0) := by
  simp only [projR]; rw [show evalV pxw [v2] = (1, 7, ⟨#[]⟩, 0) from px_v 2]
  rfl
 have b1 : buildP rw7 [⟨2, 1⟩, ⟨5, -1⟩] = [⟨rw7, 2, 1⟩, ⟨rw7, 5, -1⟩] := by
  unfold buildP; rw [rw7_may]
  rfl
 have b2 : buildP rw7 [⟨5, 1⟩] = [⟨rw7, 5, 1⟩] := by
  unfold buildP; rw [rw7_may]
  rfl
 have hb : becR (fun row => projR evalV row [] [pxw]) [] [([v1], [⟨2, 1⟩, ⟨5, -1⟩]), ([v2], [⟨5, 1⟩])] = (becL, 0) := by
  simp only [becR, p1, p2, b1, b2]
  rfl
 have hb' : becR (fun row => projR evalV row [] [pxw]) [] (runsP [e1, e2, e3]) = (becL, 0) := by rw [runsL]; exact hb
 unfold PDd.linear_Project.f; rw [if_pos ⟨by decide, by rw [hb']; decide⟩]; have h : projV evalV formV [pxw] [e1, e2, e3] = ([⟨[⟨1, 7, ⟨#[]⟩⟩], 2, 1⟩], 0) := by
  unfold projV; rw [if_pos mayL3, if_neg zq34]; have h1 : formAll formV [pxw] = 0 := by simp [formAll, pxw_form]
  rw [if_neg (by rw [h1]; decide)]; unfold becV; rw [hb', if_neg zq34]; exact normL
 rw [h]
theorem r64b {z : Int} (h : (Lit.int .i64 z).wf = true) : PDd.r64 z = true := by
 have := R64.of_wf h; unfold PDd.r64; rw [Bool.and_eq_true]; exact ⟨decide_eq_true this.1, decide_eq_true this.2⟩
abbrev wfV (v : Rw.Vl) : Prop := (Lit.int .i64 v.f0).wf = true ∧ (Lit.int .i64 v.f1).wf = true ∧ v.f2.size ≤ 140737488351232
abbrev wfE (e : EdP) : Prop := ((∀ v ∈ e.f0, wfV v) ∧ e.f0.length * Tryz.prog.bytesOf 65 ≤ 140737488351232) ∧ (Lit.int .i64 e.f1).wf = true ∧ (Lit.int .i64 e.f2).wf = true
abbrev wfEs (l : List EdP) : Prop := (∀ e ∈ l, wfE e) ∧ l.length * Tryz.prog.bytesOf 41 ≤ 140737488351232
abbrev wfO (x : Op8) : Prop := (Lit.int .i64 x.f0).wf = true ∧ (Lit.int .i64 x.f1).wf = true ∧ x.f2.size ≤ 140737488351232
abbrev wfX (l : List Op8) : Prop := (∀ x ∈ l, wfO x) ∧ l.length * Tryz.prog.bytesOf 68 ≤ 140737488351232
theorem bytesV : Tryz.prog.bytesOf 65 = 32 := by kernel_rfl
theorem okEs_wf {l : List EdP} (h : wfEs l) : PDd.okEs l = true := by
 unfold PDd.okEs; refine List.all_eq_true.2 fun e he => ?_
 obtain ⟨⟨h1, h2⟩, _⟩ := h.1 e he; rw [bytesV] at h2; rw [Bool.and_eq_true]; exact ⟨decide_eq_true zq4, List.all_eq_true.2 fun v hv => r64b (h1 v hv).2.1⟩
theorem okXs_wf {l : List Op8} (h : wfX l) : PDd.okXs l = true := List.all_eq_true.2 fun x hx => r64b (h.1 x hx).2.1
theorem filters_walk (A0 : Option Addr) (c0 : Nat) (l0 : List EdP) (A1 : Option Addr) (c1 : Nat) (l1 : List Op8) (w : World) (hr0 : Kd.C k41 w A0 l0.length l0) (hc0 : l0.length ≤ c0) (h0 : wfEs l0)
  (hr1 : Kd.C k68 w A1 l1.length l1) (hc1 : l1.length ≤ c1) (h1 : wfX l1) :
  Calls Tryz.prog 3 #[.slice A0 l0.length c0, .slice A1 l1.length c1] w fun e w' => e = .returned (.bool true) ∧ Below w.heap.size w w' :=
 filters_calls factA factB A0 c0 l0 A1 c1 l1 w hr0 hc0 hr1 hc1 (okEs_wf h0) (okXs_wf h1)
end Go.Proofs.YtmkgecapkeojaaaGreat.Eg
end
