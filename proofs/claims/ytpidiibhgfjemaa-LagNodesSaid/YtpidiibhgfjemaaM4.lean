/- Texts of this claim, put together by a program: PLgx5, PLgx, LgA, LgB, EvP. -/
import Derived.Test.YtpidiibhgfjemaaM3
import Derived.Lib.Hide
import Derived.Laws.NewBlocks
import Derived.Laws.Closers25b
section
namespace Go.Proofs.Ytpidiibhgfjemaa.PLg
open Go.RowKit Go.Proofs.YtpidiibhgfjemaaW.PrintWords Go.Proofs.YtpidiibhgfjemaaW.PrintLast Go.Proofs.YtpidiibhgfjemaaW.PrintMore
attribute [local go_sem] max2_int min2_int max_two min_two max_three min_three max_four min_four
set_option linter.unusedVariables false
set_option linter.unusedSimpArgs false
mutual
def rescindref40_node.j0 : Nat → List (S40) → Int → Bool → Int → Int → Int → List (List (S79)) → List ByteArray → List Int → List (S43) → Int → Int → Int → Int → Int → Option (Int)
 | 0, _, _, _, _, _, _, _, _, _, _, _, _, _, _, _ => none
 | k + 1, x0, x13, x16, x448000, x448001, x448002, x448003, x448004, x448005, x448006, x448007, x448008, x448009, x448010, x448011 => if x16 = true then ((rescindref40_node.f k x0 x448001).bind fun t448 => ((rescindref40_node.f k x0 x448002).bind fun t449 => (if t448 < t449 then (some t449) else (some t448)))) else (if x13 = 8 then (rescindref40_node.j1 k x0 (x13 == 8) x448000 x448001 x448002 x448003 x448004 x448005 x448006 x448007 x448008 x448009 x448010 x448011) else (rescindref40_node.j1 k x0 (x13 == 9) x448000 x448001 x448002 x448003 x448004 x448005 x448006 x448007 x448008 x448009 x448010 x448011))
def rescindref40_node.j1 : Nat → List (S40) → Bool → Int → Int → Int → List (List (S79)) → List ByteArray → List Int → List (S43) → Int → Int → Int → Int → Int → Option (Int)
 | 0, _, _, _, _, _, _, _, _, _, _, _, _, _, _ => none
 | k + 1, x0, x33, x448000, x448001, x448002, x448003, x448004, x448005, x448006, x448007, x448008, x448009, x448010, x448011 => if x33 = true then (if x448007 = 2 then ((rescindref40_node.f k x0 x448001).bind fun t450 => (some (wrap64 ((wrap64 (t450 + x448008)) - 1)))) else ((rescindref40_node.f k x0 x448001).bind fun t451 => (some t451))) else ((rescindref40_node.f k x0 x448001).bind fun t452 => (some t452))
def rescindref40_node.f : Nat → List (S40) → Int → Option (Int)
 | 0, _, _ => none
 | k + 1, l0, a1 => if 0 ≤ a1 then (if a1 < (l0.length : Int) then (if ((rd_T40 l0 a1).f0) = 1 then (some 0) else (if ((rd_T40 l0 a1).f0) = 4 then (rescindref40_node.j0 k l0 ((rd_T40 l0 a1).f0) (((rd_T40 l0 a1).f0) == 4) ((rd_T40 l0 a1).f0) ((rd_T40 l0 a1).f1) ((rd_T40 l0 a1).f2) ((rd_T40 l0 a1).f3) ((rd_T40 l0 a1).f4) ((rd_T40 l0 a1).f5) ((rd_T40 l0 a1).f6) ((rd_T40 l0 a1).f7.f0) ((rd_T40 l0 a1).f7.f1) ((rd_T40 l0 a1).f7.f2) ((rd_T40 l0 a1).f8) ((rd_T40 l0 a1).f9)) else (if ((rd_T40 l0 a1).f0) = 5 then (rescindref40_node.j0 k l0 ((rd_T40 l0 a1).f0) (((rd_T40 l0 a1).f0) == 5) ((rd_T40 l0 a1).f0) ((rd_T40 l0 a1).f1) ((rd_T40 l0 a1).f2) ((rd_T40 l0 a1).f3) ((rd_T40 l0 a1).f4) ((rd_T40 l0 a1).f5) ((rd_T40 l0 a1).f6) ((rd_T40 l0 a1).f7.f0) ((rd_T40 l0 a1).f7.f1) ((rd_T40 l0 a1).f7.f2) ((rd_T40 l0 a1).f8) ((rd_T40 l0 a1).f9)) else (rescindref40_node.j0 k l0 ((rd_T40 l0 a1).f0) (((rd_T40 l0 a1).f0) == 6) ((rd_T40 l0 a1).f0) ((rd_T40 l0 a1).f1) ((rd_T40 l0 a1).f2) ((rd_T40 l0 a1).f3) ((rd_T40 l0 a1).f4) ((rd_T40 l0 a1).f5) ((rd_T40 l0 a1).f6) ((rd_T40 l0 a1).f7.f0) ((rd_T40 l0 a1).f7.f1) ((rd_T40 l0 a1).f7.f2) ((rd_T40 l0 a1).f8) ((rd_T40 l0 a1).f9))))) else (none)) else (none)
end
theorem rescindref40_node.mono_l : ∀ k, (∀ y0 y1, LeO (rescindref40_node.f k y0 y1) (rescindref40_node.f (k + 1) y0 y1)) ∧ (∀ y0 y1 y2 y3 y4 y5 y6 y7 y8 y9 y10 y11 y12 y13 y14, LeO (rescindref40_node.j0 k y0 y1 y2 y3 y4 y5 y6 y7 y8 y9 y10 y11 y12 y13 y14) (rescindref40_node.j0 (k + 1) y0 y1 y2 y3 y4 y5 y6 y7 y8 y9 y10 y11 y12 y13 y14)) ∧ (∀ y0 y1 y2 y3 y4 y5 y6 y7 y8 y9 y10 y11 y12 y13, LeO (rescindref40_node.j1 k y0 y1 y2 y3 y4 y5 y6 y7 y8 y9 y10 y11 y12 y13) (rescindref40_node.j1 (k + 1) y0 y1 y2 y3 y4 y5 y6 y7 y8 y9 y10 y11 y12 y13))
 | 0 => ⟨fun _ _ r h => by simp [rescindref40_node.f] at h, fun _ _ _ _ _ _ _ _ _ _ _ _ _ _ _ r h => by simp [rescindref40_node.j0] at h, fun _ _ _ _ _ _ _ _ _ _ _ _ _ _ r h => by simp [rescindref40_node.j1] at h⟩
 | k + 1 => by
  obtain ⟨ih0, ih1, ih2⟩ := rescindref40_node.mono_l k
  refine ⟨?_, ?_, ?_⟩
  ·intro y0 y1
   unfold rescindref40_node.f
   repeat' first
   | (with_reducible exact ih0 _ _)
   | (with_reducible exact ih1 _ _ _ _ _ _ _ _ _ _ _ _ _ _ _)
   | (with_reducible exact ih2 _ _ _ _ _ _ _ _ _ _ _ _ _ _)
   | (with_reducible exact LeO.refl _)
   | (with_reducible exact LeO.none _)
   | (with_reducible refine LeO.ite ?_ ?_)
   | (with_reducible refine LeO.bind ?_ (fun _ => ?_))
   | exact ih0 _ _
   | exact ih1 _ _ _ _ _ _ _ _ _ _ _ _ _ _ _
   | exact ih2 _ _ _ _ _ _ _ _ _ _ _ _ _ _
   | exact LeO.none _
   | refine LeO.ite ?_ ?_
   | refine LeO.bind ?_ (fun _ => ?_)
  ·intro y0 y1 y2 y3 y4 y5 y6 y7 y8 y9 y10 y11 y12 y13 y14
   unfold rescindref40_node.j0
   repeat' first
   | (with_reducible exact ih0 _ _)
   | (with_reducible exact ih1 _ _ _ _ _ _ _ _ _ _ _ _ _ _ _)
   | (with_reducible exact ih2 _ _ _ _ _ _ _ _ _ _ _ _ _ _)
   | (with_reducible exact LeO.refl _)
   | (with_reducible exact LeO.none _)
   | (with_reducible refine LeO.ite ?_ ?_)
   | (with_reducible refine LeO.bind ?_ (fun _ => ?_))
   | exact ih0 _ _
   | exact ih1 _ _ _ _ _ _ _ _ _ _ _ _ _ _ _
   | exact ih2 _ _ _ _ _ _ _ _ _ _ _ _ _ _
   | exact LeO.none _
   | refine LeO.ite ?_ ?_
   | refine LeO.bind ?_ (fun _ => ?_)
  ·intro y0 y1 y2 y3 y4 y5 y6 y7 y8 y9 y10 y11 y12 y13
   unfold rescindref40_node.j1
   repeat' first
   | (with_reducible exact ih0 _ _)
   | (with_reducible exact ih1 _ _ _ _ _ _ _ _ _ _ _ _ _ _ _)
   | (with_reducible exact ih2 _ _ _ _ _ _ _ _ _ _ _ _ _ _)
   | (with_reducible exact LeO.refl _)
   | (with_reducible exact LeO.none _)
   | (with_reducible refine LeO.ite ?_ ?_)
   | (with_reducible refine LeO.bind ?_ (fun _ => ?_))
   | exact ih0 _ _
   | exact ih1 _ _ _ _ _ _ _ _ _ _ _ _ _ _ _
   | exact ih2 _ _ _ _ _ _ _ _ _ _ _ _ _ _
   | exact LeO.none _
   | refine LeO.ite ?_ ?_
   | refine LeO.bind ?_ (fun _ => ?_)
theorem rescindref40_node.mono : ∀ a0 a1 k, LeO (rescindref40_node.f k a0 a1) (rescindref40_node.f (k + 1) a0 a1) := by
 intro a0 a1 k
 obtain ⟨ih0, ih1, ih2⟩ := rescindref40_node.mono_l k
 exact ih0 a0 a1
def rescindref40_node.T16 : Bool × List (List Nat × List Nat) := (true, [([], []), ([], []), ([1], [1]), ([0, 2], [0, 2]), ([], []), ([4], [4]), ([5], [5]), ([3, 6], [3, 6]), ([7], [7]), ([8, 3, 0, 1, 2, 3, 4, 5, 6, 7, 8], [8])])
def rescindref40_node.B16 : List Nat := [0, 0, 2, 7, 0, 16, 48, 127, 255, 511]
theorem rescindref40_node.tab16 : rtab .any (opsOf Try.f15 16) = rescindref40_node.T16 := by kernel_rfl
theorem rescindref40_node.bits16 : waitsOk rescindref40_node.T16.2 rescindref40_node.B16 = true := by kernel_rfl
set_option maxHeartbeats 8000000 in
set_option maxRecDepth 100000 in
theorem rescindref40_node.calls (k : Nat) : ∀ (A0 : Option Addr) (c0 : Nat) (l0 : List (S40)) (a1 : Int) (r : Int) (w : World) (hr0 : Kd.C k40 w A0 l0.length l0) (hc0 : l0.length ≤ c0) (h : rescindref40_node.f k l0 a1 = some r),
  Calls Try.prog 15 #[.slice A0 l0.length c0, .int .i64 a1] w fun e w' => e = .returned (.int .i64 r) ∧ Below w.heap.size w w' := by
 induction k using Nat.strongRecOn with
 | _ k ih =>
 intro A0 c0 l0 a1 r w hr0 hc0 h
 cases k with
 | zero => exact absurd h (by simp [rescindref40_node.f])
 | succ k =>
 simp only [rescindref40_node.f] at h
 have hu40 := Try.underlying40
 have HR0 := Aside0.mk hr0
 have HC0 := Aside0.mk hc0
 clear hr0 hc0
 have HB := Aside0.mk (Below.refl w.heap.size w)
 have H : (if 0 ≤ a1 then (if a1 < (l0.length : Int) then (if ((rd_T40 l0 a1).f0) = 1 then (some 0) else (if ((rd_T40 l0 a1).f0) = 4 then (rescindref40_node.j0 k l0 ((rd_T40 l0 a1).f0) (((rd_T40 l0 a1).f0) == 4) ((rd_T40 l0 a1).f0) ((rd_T40 l0 a1).f1) ((rd_T40 l0 a1).f2) ((rd_T40 l0 a1).f3) ((rd_T40 l0 a1).f4) ((rd_T40 l0 a1).f5) ((rd_T40 l0 a1).f6) ((rd_T40 l0 a1).f7.f0) ((rd_T40 l0 a1).f7.f1) ((rd_T40 l0 a1).f7.f2) ((rd_T40 l0 a1).f8) ((rd_T40 l0 a1).f9)) else (if ((rd_T40 l0 a1).f0) = 5 then (rescindref40_node.j0 k l0 ((rd_T40 l0 a1).f0) (((rd_T40 l0 a1).f0) == 5) ((rd_T40 l0 a1).f0) ((rd_T40 l0 a1).f1) ((rd_T40 l0 a1).f2) ((rd_T40 l0 a1).f3) ((rd_T40 l0 a1).f4) ((rd_T40 l0 a1).f5) ((rd_T40 l0 a1).f6) ((rd_T40 l0 a1).f7.f0) ((rd_T40 l0 a1).f7.f1) ((rd_T40 l0 a1).f7.f2) ((rd_T40 l0 a1).f8) ((rd_T40 l0 a1).f9)) else (rescindref40_node.j0 k l0 ((rd_T40 l0 a1).f0) (((rd_T40 l0 a1).f0) == 6) ((rd_T40 l0 a1).f0) ((rd_T40 l0 a1).f1) ((rd_T40 l0 a1).f2) ((rd_T40 l0 a1).f3) ((rd_T40 l0 a1).f4) ((rd_T40 l0 a1).f5) ((rd_T40 l0 a1).f6) ((rd_T40 l0 a1).f7.f0) ((rd_T40 l0 a1).f7.f1) ((rd_T40 l0 a1).f7.f2) ((rd_T40 l0 a1).f8) ((rd_T40 l0 a1).f9))))) else (none)) else (none)) = some r := h
 clear h
 by_cases c3 : 0 ≤ a1
 ·rw [if_pos c3] at H
  have c3b0 : decide (0 ≤ a1) = true := decide_eq_true c3
  clear c3
  by_cases c4 : a1 < (l0.length : Int)
  ·rw [if_pos c4] at H
   have c4b0 : decide (a1 < (l0.length : Int)) = true := decide_eq_true c4
   clear c4
   by_cases c5 : ((rd_T40 l0 a1).f0) = 1
   ·rw [if_pos c5] at H
    have c5b0 : (((rd_T40 l0 a1).f0) == 1) = true := beq_iff_eq.mpr c5
    have c5b1 : (((rd_T40 l0 a1).f0) != 1) = false := bne_eq_false_iff_eq.mpr c5
    clear c5
    obtain rfl := Option.some.inj H
    have p446 : 0 ≤ (a1 : Int) := of_decide_eq_true (by first | (with_reducible assumption) | assumption)
    have q446 : a1 < (l0.length : Int) := of_decide_eq_true (by first | (with_reducible assumption) | assumption)
    obtain ⟨ad446, A446_3, c446_3, A446_4, c446_4, A446_5, c446_5, A446_6, c446_6, e446, hx446_0, hx446_1, hx446_2, hx446_3, hx446_4, hx446_5, hx446_6, hx446_7, hx446_8, hx446_9, hx446_10, hx446_11, hl446_3, hi446_3, hl446_4, hi446_4, hl446_5, hi446_5, hl446_6, hi446_6⟩ := at_T40 HR0.out a1 p446 q446
    cases e446
    have HR446_3 := Aside0.mk hi446_3
    have HC446_3 := Aside0.mk hl446_3
    clear hi446_3 hl446_3
    have HR446_4 := Aside0.mk hi446_4
    have HC446_4 := Aside0.mk hl446_4
    clear hi446_4 hl446_4
    have HR446_5 := Aside0.mk hi446_5
    have HC446_5 := Aside0.mk hl446_5
    clear hi446_5 hl446_5
    have HR446_6 := Aside0.mk hi446_6
    have HC446_6 := Aside0.mk hl446_6
    clear hi446_6 hl446_6
    replace p446 := eq_true p446
    replace q446 := eq_true q446
    go_enter Try.func15, Try.ntmps15
    go_wp2_with (first | ((with_reducible refine gate_dst (N := 5) rfl ?_); refine box_event ?hg (N := 5) ?hd (cs := #[.int .i64 0, .int .i64 0, .int .i64 0, .slice none 0 0, .slice none 0 0, .slice none 0 0, .slice none 0 0, .int .i64 0, .int .i64 0, .int .i64 0, .int .i64 0, .int .i64 0]) (t := 40) ?hr ?_; (case hd => rfl); (case hg => rfl); (case hr => first | (go_simp; done) | (go_simp; rfl)); intro gb447 hg w6 hbox hb; have n0_ := Aside0.mk (below_step (by repeat (first | (with_reducible first | exact HB.out | apply below_alloc | apply pw_below_drewN | apply below_drew1) | exact HB.out)) hb); have n1_ := Aside0.mk (hbox); have n2_ := Aside0.mk ((by rw [hg]; exact (below_size (by repeat (first | (with_reducible first | exact HB.out | apply below_alloc | apply pw_below_drewN | apply below_drew1) | exact HB.out))) : w.heap.size ≤ gb447)); have n3_ := Aside0.mk ((by rw [hg]; exact (below_size (by repeat (first | (with_reducible first | exact HB.out | apply below_alloc | apply pw_below_drewN | apply below_drew1) | exact HB.out))) : w.heap.size ≤ gb447)); clear HB; have HB := n0_; have BK447 := n1_; have GW447 := n2_; have GE447 := n3_; clear n0_ n1_ n2_ n3_; clear hb hbox hg; have hcz7_0 : w6.cell? ⟨gb447, 0, none⟩ = some (.int .i64 0) := (blk_cell BK447.out 0).trans rfl; have hcz7_1 : w6.cell? ⟨gb447, 1, none⟩ = some (.int .i64 0) := (blk_cell BK447.out 1).trans rfl; have hcz7_2 : w6.cell? ⟨gb447, 2, none⟩ = some (.int .i64 0) := (blk_cell BK447.out 2).trans rfl; have hcz7_3 : w6.cell? ⟨gb447, 3, none⟩ = some (.slice none 0 0) := (blk_cell BK447.out 3).trans rfl; have hcz7_4 : w6.cell? ⟨gb447, 4, none⟩ = some (.slice none 0 0) := (blk_cell BK447.out 4).trans rfl; have hcz7_5 : w6.cell? ⟨gb447, 5, none⟩ = some (.slice none 0 0) := (blk_cell BK447.out 5).trans rfl; have hcz7_6 : w6.cell? ⟨gb447, 6, none⟩ = some (.slice none 0 0) := (blk_cell BK447.out 6).trans rfl; have hcz7_7 : w6.cell? ⟨gb447, 7, none⟩ = some (.int .i64 0) := (blk_cell BK447.out 7).trans rfl; have hcz7_8 : w6.cell? ⟨gb447, 8, none⟩ = some (.int .i64 0) := (blk_cell BK447.out 8).trans rfl; have hcz7_9 : w6.cell? ⟨gb447, 9, none⟩ = some (.int .i64 0) := (blk_cell BK447.out 9).trans rfl; have hcz7_10 : w6.cell? ⟨gb447, 10, none⟩ = some (.int .i64 0) := (blk_cell BK447.out 10).trans rfl; have hcz7_11 : w6.cell? ⟨gb447, 11, none⟩ = some (.int .i64 0) := (blk_cell BK447.out 11).trans rfl; have hfz7_0 := blk_frozen BK447.out 0; have hfz7_1 := blk_frozen BK447.out 1; have hfz7_2 := blk_frozen BK447.out 2; have hfz7_3 := blk_frozen BK447.out 3; have hfz7_4 := blk_frozen BK447.out 4; have hfz7_5 := blk_frozen BK447.out 5; have hfz7_6 := blk_frozen BK447.out 6; have hfz7_7 := blk_frozen BK447.out 7; have hfz7_8 := blk_frozen BK447.out 8; have hfz7_9 := blk_frozen BK447.out 9; have hfz7_10 := blk_frozen BK447.out 10; have hfz7_11 := blk_frozen BK447.out 11))
    go_ret
    exact ⟨by first | rfl | (simp [errW_none, errW_some] <;> rfl) | (simp [*, errW_none, errW_some] <;> rfl), by repeat (first | (with_reducible first | exact HB.out | apply below_alloc | apply pw_below_drewN | apply below_drew1 | refine below_set ?_ GE447.out) | exact HB.out)⟩
   ·rw [if_neg c5] at H
    have c5b0 : (((rd_T40 l0 a1).f0) == 1) = false := beq_eq_false_iff_ne.mpr c5
    have c5b1 : (((rd_T40 l0 a1).f0) != 1) = true := bne_iff_ne.mpr c5
    have HC8 := Aside0.mk H
    clear H
    have p446 : 0 ≤ (a1 : Int) := of_decide_eq_true (by first | (with_reducible assumption) | assumption)
    have q446 : a1 < (l0.length : Int) := of_decide_eq_true (by first | (with_reducible assumption) | assumption)
    obtain ⟨ad446, A446_3, c446_3, A446_4, c446_4, A446_5, c446_5, A446_6, c446_6, e446, hx446_0, hx446_1, hx446_2, hx446_3, hx446_4, hx446_5, hx446_6, hx446_7, hx446_8, hx446_9, hx446_10, hx446_11, hl446_3, hi446_3, hl446_4, hi446_4, hl446_5, hi446_5, hl446_6, hi446_6⟩ := at_T40 HR0.out a1 p446 q446
    cases e446
    have HR446_3 := Aside0.mk hi446_3
    have HC446_3 := Aside0.mk hl446_3
    clear hi446_3 hl446_3
    have HR446_4 := Aside0.mk hi446_4
    have HC446_4 := Aside0.mk hl446_4
    clear hi446_4 hl446_4
    have HR446_5 := Aside0.mk hi446_5
    have HC446_5 := Aside0.mk hl446_5
    clear hi446_5 hl446_5
    have HR446_6 := Aside0.mk hi446_6
    have HC446_6 := Aside0.mk hl446_6
    clear hi446_6 hl446_6
    replace p446 := eq_true p446
    replace q446 := eq_true q446
    go_enter Try.func15, Try.ntmps15
    go_upto_if 16 with (first | ((with_reducible refine gate_dst (N := 5) rfl ?_); refine box_event ?hg (N := 5) ?hd (cs := #[.int .i64 0, .int .i64 0, .int .i64 0, .slice none 0 0, .slice none 0 0, .slice none 0 0, .slice none 0 0, .int .i64 0, .int .i64 0, .int .i64 0, .int .i64 0, .int .i64 0]) (t := 40) ?hr ?_; (case hd => rfl); (case hg => rfl); (case hr => first | (go_simp; done) | (go_simp; rfl)); intro gb447 hg w9 hbox hb; have n0_ := Aside0.mk (below_step (by repeat (first | (with_reducible first | exact HB.out | apply below_alloc | apply pw_below_drewN | apply below_drew1) | exact HB.out)) hb); have n1_ := Aside0.mk (hbox); have n2_ := Aside0.mk ((by rw [hg]; exact (below_size (by repeat (first | (with_reducible first | exact HB.out | apply below_alloc | apply pw_below_drewN | apply below_drew1) | exact HB.out))) : w.heap.size ≤ gb447)); have n3_ := Aside0.mk ((by rw [hg]; exact (below_size (by repeat (first | (with_reducible first | exact HB.out | apply below_alloc | apply pw_below_drewN | apply below_drew1) | exact HB.out))) : w.heap.size ≤ gb447)); clear HB; have HB := n0_; have BK447 := n1_; have GW447 := n2_; have GE447 := n3_; clear n0_ n1_ n2_ n3_; clear hb hbox hg; have hcz10_0 : w9.cell? ⟨gb447, 0, none⟩ = some (.int .i64 0) := (blk_cell BK447.out 0).trans rfl; have hcz10_1 : w9.cell? ⟨gb447, 1, none⟩ = some (.int .i64 0) := (blk_cell BK447.out 1).trans rfl; have hcz10_2 : w9.cell? ⟨gb447, 2, none⟩ = some (.int .i64 0) := (blk_cell BK447.out 2).trans rfl; have hcz10_3 : w9.cell? ⟨gb447, 3, none⟩ = some (.slice none 0 0) := (blk_cell BK447.out 3).trans rfl; have hcz10_4 : w9.cell? ⟨gb447, 4, none⟩ = some (.slice none 0 0) := (blk_cell BK447.out 4).trans rfl; have hcz10_5 : w9.cell? ⟨gb447, 5, none⟩ = some (.slice none 0 0) := (blk_cell BK447.out 5).trans rfl; have hcz10_6 : w9.cell? ⟨gb447, 6, none⟩ = some (.slice none 0 0) := (blk_cell BK447.out 6).trans rfl; have hcz10_7 : w9.cell? ⟨gb447, 7, none⟩ = some (.int .i64 0) := (blk_cell BK447.out 7).trans rfl; have hcz10_8 : w9.cell? ⟨gb447, 8, none⟩ = some (.int .i64 0) := (blk_cell BK447.out 8).trans rfl; have hcz10_9 : w9.cell? ⟨gb447, 9, none⟩ = some (.int .i64 0) := (blk_cell BK447.out 9).trans rfl; have hcz10_10 : w9.cell? ⟨gb447, 10, none⟩ = some (.int .i64 0) := (blk_cell BK447.out 10).trans rfl; have hcz10_11 : w9.cell? ⟨gb447, 11, none⟩ = some (.int .i64 0) := (blk_cell BK447.out 11).trans rfl; have hfz10_0 := blk_frozen BK447.out 0; have hfz10_1 := blk_frozen BK447.out 1; have hfz10_2 := blk_frozen BK447.out 2; have hfz10_3 := blk_frozen BK447.out 3; have hfz10_4 := blk_frozen BK447.out 4; have hfz10_5 := blk_frozen BK447.out 5; have hfz10_6 := blk_frozen BK447.out 6; have hfz10_7 := blk_frozen BK447.out 7; have hfz10_8 := blk_frozen BK447.out 8; have hfz10_9 := blk_frozen BK447.out 9; have hfz10_10 := blk_frozen BK447.out 10; have hfz10_11 := blk_frozen BK447.out 11))
    (try simp only [Act.put, List.setIfInBounds_toArray, List.set_cons_zero, List.set_cons_succ])
    go_cut [16] (fun v16 wc => ∃ (kq : Nat) (x16_7 : Bool), v16 = .bool x16_7 ∧ Aside0 (rescindref40_node.j0 kq l0 ((rd_T40 l0 a1).f0) x16_7 ((rd_T40 l0 a1).f0) ((rd_T40 l0 a1).f1) ((rd_T40 l0 a1).f2) ((rd_T40 l0 a1).f3) ((rd_T40 l0 a1).f4) ((rd_T40 l0 a1).f5) ((rd_T40 l0 a1).f6) ((rd_T40 l0 a1).f7.f0) ((rd_T40 l0 a1).f7.f1) ((rd_T40 l0 a1).f7.f2) ((rd_T40 l0 a1).f8) ((rd_T40 l0 a1).f9) = some r) ∧ Aside0 (kq ≤ k) ∧ Aside0 (wc.heap[gb447]? = some (.cells #[.int .i64 ((rd_T40 l0 a1).f0), .int .i64 ((rd_T40 l0 a1).f1), .int .i64 ((rd_T40 l0 a1).f2), (.slice A446_3 ((rd_T40 l0 a1).f3).length c446_3), (.slice A446_4 ((rd_T40 l0 a1).f4).length c446_4), (.slice A446_5 ((rd_T40 l0 a1).f5).length c446_5), (.slice A446_6 ((rd_T40 l0 a1).f6).length c446_6), .int .i64 ((rd_T40 l0 a1).f7.f0), .int .i64 ((rd_T40 l0 a1).f7.f1), .int .i64 ((rd_T40 l0 a1).f7.f2), .int .i64 ((rd_T40 l0 a1).f8), .int .i64 ((rd_T40 l0 a1).f9)] 40 (0, 0))) ∧ Aside0 (Below w.heap.size w wc))
    case first =>
     have H := HC8.out
     clear HC8
     by_cases c11 : ((rd_T40 l0 a1).f0) = 4
     ·rw [if_pos c11] at H
      have c11b0 : (((rd_T40 l0 a1).f0) == 4) = true := beq_iff_eq.mpr c11
      have c11b1 : (((rd_T40 l0 a1).f0) != 4) = false := bne_eq_false_iff_eq.mpr c11
      clear c11
      (first | rw [c11b0] | (simp only [i64_w, i32_w]; rw [c11b0]) | skip)
      have H' := Aside0.mk H
      clear H
      go_wp2
      go_meet
      case rel => exact ⟨_, ((((rd_T40 l0 a1).f0) == 4)), (by first | rfl | (simp; done) | (simp [*]; done)), H', ⟨by first | omega | exact Nat.le_refl _⟩, ⟨by (with_reducible repeat (first | refine blk_drewN ?_ _ | refine blk_drew ?_ | refine blk_alloc ?_ _)); refine blk_put (cs := #[.int .i64 ((rd_T40 l0 a1).f0), .int .i64 ((rd_T40 l0 a1).f1), .int .i64 ((rd_T40 l0 a1).f2), .slice A446_3 ((rd_T40 l0 a1).f3).length c446_3, .slice A446_4 ((rd_T40 l0 a1).f4).length c446_4, .slice A446_5 ((rd_T40 l0 a1).f5).length c446_5, .slice A446_6 ((rd_T40 l0 a1).f6).length c446_6, .int .i64 ((rd_T40 l0 a1).f7.f0), .int .i64 ((rd_T40 l0 a1).f7.f1), .int .i64 ((rd_T40 l0 a1).f7.f2), .int .i64 ((rd_T40 l0 a1).f8), .int .i64 0]) ?_ 11 _ rfl; (with_reducible repeat (first | refine blk_drewN ?_ _ | refine blk_drew ?_ | refine blk_alloc ?_ _)); refine blk_put (cs := #[.int .i64 ((rd_T40 l0 a1).f0), .int .i64 ((rd_T40 l0 a1).f1), .int .i64 ((rd_T40 l0 a1).f2), .slice A446_3 ((rd_T40 l0 a1).f3).length c446_3, .slice A446_4 ((rd_T40 l0 a1).f4).length c446_4, .slice A446_5 ((rd_T40 l0 a1).f5).length c446_5, .slice A446_6 ((rd_T40 l0 a1).f6).length c446_6, .int .i64 ((rd_T40 l0 a1).f7.f0), .int .i64 ((rd_T40 l0 a1).f7.f1), .int .i64 ((rd_T40 l0 a1).f7.f2), .int .i64 0, .int .i64 0]) ?_ 10 _ rfl; (with_reducible repeat (first | refine blk_drewN ?_ _ | refine blk_drew ?_ | refine blk_alloc ?_ _)); refine blk_put (cs := #[.int .i64 ((rd_T40 l0 a1).f0), .int .i64 ((rd_T40 l0 a1).f1), .int .i64 ((rd_T40 l0 a1).f2), .slice A446_3 ((rd_T40 l0 a1).f3).length c446_3, .slice A446_4 ((rd_T40 l0 a1).f4).length c446_4, .slice A446_5 ((rd_T40 l0 a1).f5).length c446_5, .slice A446_6 ((rd_T40 l0 a1).f6).length c446_6, .int .i64 ((rd_T40 l0 a1).f7.f0), .int .i64 ((rd_T40 l0 a1).f7.f1), .int .i64 0, .int .i64 0, .int .i64 0]) ?_ 9 _ rfl; (with_reducible repeat (first | refine blk_drewN ?_ _ | refine blk_drew ?_ | refine blk_alloc ?_ _)); refine blk_put (cs := #[.int .i64 ((rd_T40 l0 a1).f0), .int .i64 ((rd_T40 l0 a1).f1), .int .i64 ((rd_T40 l0 a1).f2), .slice A446_3 ((rd_T40 l0 a1).f3).length c446_3, .slice A446_4 ((rd_T40 l0 a1).f4).length c446_4, .slice A446_5 ((rd_T40 l0 a1).f5).length c446_5, .slice A446_6 ((rd_T40 l0 a1).f6).length c446_6, .int .i64 ((rd_T40 l0 a1).f7.f0), .int .i64 0, .int .i64 0, .int .i64 0, .int .i64 0]) ?_ 8 _ rfl; (with_reducible repeat (first | refine blk_drewN ?_ _ | refine blk_drew ?_ | refine blk_alloc ?_ _)); refine blk_put (cs := #[.int .i64 ((rd_T40 l0 a1).f0), .int .i64 ((rd_T40 l0 a1).f1), .int .i64 ((rd_T40 l0 a1).f2), .slice A446_3 ((rd_T40 l0 a1).f3).length c446_3, .slice A446_4 ((rd_T40 l0 a1).f4).length c446_4, .slice A446_5 ((rd_T40 l0 a1).f5).length c446_5, .slice A446_6 ((rd_T40 l0 a1).f6).length c446_6, .int .i64 0, .int .i64 0, .int .i64 0, .int .i64 0, .int .i64 0]) ?_ 7 _ rfl; (with_reducible repeat (first | refine blk_drewN ?_ _ | refine blk_drew ?_ | refine blk_alloc ?_ _)); refine blk_put (cs := #[.int .i64 ((rd_T40 l0 a1).f0), .int .i64 ((rd_T40 l0 a1).f1), .int .i64 ((rd_T40 l0 a1).f2), .slice A446_3 ((rd_T40 l0 a1).f3).length c446_3, .slice A446_4 ((rd_T40 l0 a1).f4).length c446_4, .slice A446_5 ((rd_T40 l0 a1).f5).length c446_5, .slice none 0 0, .int .i64 0, .int .i64 0, .int .i64 0, .int .i64 0, .int .i64 0]) ?_ 6 _ rfl; (with_reducible repeat (first | refine blk_drewN ?_ _ | refine blk_drew ?_ | refine blk_alloc ?_ _)); refine blk_put (cs := #[.int .i64 ((rd_T40 l0 a1).f0), .int .i64 ((rd_T40 l0 a1).f1), .int .i64 ((rd_T40 l0 a1).f2), .slice A446_3 ((rd_T40 l0 a1).f3).length c446_3, .slice A446_4 ((rd_T40 l0 a1).f4).length c446_4, .slice none 0 0, .slice none 0 0, .int .i64 0, .int .i64 0, .int .i64 0, .int .i64 0, .int .i64 0]) ?_ 5 _ rfl; (with_reducible repeat (first | refine blk_drewN ?_ _ | refine blk_drew ?_ | refine blk_alloc ?_ _)); refine blk_put (cs := #[.int .i64 ((rd_T40 l0 a1).f0), .int .i64 ((rd_T40 l0 a1).f1), .int .i64 ((rd_T40 l0 a1).f2), .slice A446_3 ((rd_T40 l0 a1).f3).length c446_3, .slice none 0 0, .slice none 0 0, .slice none 0 0, .int .i64 0, .int .i64 0, .int .i64 0, .int .i64 0, .int .i64 0]) ?_ 4 _ rfl; (with_reducible repeat (first | refine blk_drewN ?_ _ | refine blk_drew ?_ | refine blk_alloc ?_ _)); refine blk_put (cs := #[.int .i64 ((rd_T40 l0 a1).f0), .int .i64 ((rd_T40 l0 a1).f1), .int .i64 ((rd_T40 l0 a1).f2), .slice none 0 0, .slice none 0 0, .slice none 0 0, .slice none 0 0, .int .i64 0, .int .i64 0, .int .i64 0, .int .i64 0, .int .i64 0]) ?_ 3 _ rfl; (with_reducible repeat (first | refine blk_drewN ?_ _ | refine blk_drew ?_ | refine blk_alloc ?_ _)); refine blk_put (cs := #[.int .i64 ((rd_T40 l0 a1).f0), .int .i64 ((rd_T40 l0 a1).f1), .int .i64 0, .slice none 0 0, .slice none 0 0, .slice none 0 0, .slice none 0 0, .int .i64 0, .int .i64 0, .int .i64 0, .int .i64 0, .int .i64 0]) ?_ 2 _ rfl; (with_reducible repeat (first | refine blk_drewN ?_ _ | refine blk_drew ?_ | refine blk_alloc ?_ _)); refine blk_put (cs := #[.int .i64 ((rd_T40 l0 a1).f0), .int .i64 0, .int .i64 0, .slice none 0 0, .slice none 0 0, .slice none 0 0, .slice none 0 0, .int .i64 0, .int .i64 0, .int .i64 0, .int .i64 0, .int .i64 0]) ?_ 1 _ rfl; (with_reducible repeat (first | refine blk_drewN ?_ _ | refine blk_drew ?_ | refine blk_alloc ?_ _)); refine blk_put (cs := #[.int .i64 0, .int .i64 0, .int .i64 0, .slice none 0 0, .slice none 0 0, .slice none 0 0, .slice none 0 0, .int .i64 0, .int .i64 0, .int .i64 0, .int .i64 0, .int .i64 0]) ?_ 0 _ rfl; (with_reducible repeat (first | refine blk_drewN ?_ _ | refine blk_drew ?_ | refine blk_alloc ?_ _)); exact BK447.out⟩, ⟨by repeat (first | (with_reducible first | exact HB.out | apply below_alloc | apply pw_below_drewN | apply below_drew1 | refine below_set ?_ GE447.out) | exact HB.out)⟩⟩
     ·rw [if_neg c11] at H
      have c11b0 : (((rd_T40 l0 a1).f0) == 4) = false := beq_eq_false_iff_ne.mpr c11
      have c11b1 : (((rd_T40 l0 a1).f0) != 4) = true := bne_iff_ne.mpr c11
      (first | rw [c11b0] | (simp only [i64_w, i32_w]; rw [c11b0]) | skip)
      by_cases c12 : ((rd_T40 l0 a1).f0) = 5
      ·rw [if_pos c12] at H
       have c12b0 : (((rd_T40 l0 a1).f0) == 5) = true := beq_iff_eq.mpr c12
       have c12b1 : (((rd_T40 l0 a1).f0) != 5) = false := bne_eq_false_iff_eq.mpr c12
       clear c12
       have H' := Aside0.mk H
       clear H
       go_wp2
       go_meet
       case rel => exact ⟨_, ((((rd_T40 l0 a1).f0) == 5)), (by first | rfl | (simp; done) | (simp [*]; done)), H', ⟨by first | omega | exact Nat.le_refl _⟩, ⟨by (with_reducible repeat (first | refine blk_drewN ?_ _ | refine blk_drew ?_ | refine blk_alloc ?_ _)); refine blk_put (cs := #[.int .i64 ((rd_T40 l0 a1).f0), .int .i64 ((rd_T40 l0 a1).f1), .int .i64 ((rd_T40 l0 a1).f2), .slice A446_3 ((rd_T40 l0 a1).f3).length c446_3, .slice A446_4 ((rd_T40 l0 a1).f4).length c446_4, .slice A446_5 ((rd_T40 l0 a1).f5).length c446_5, .slice A446_6 ((rd_T40 l0 a1).f6).length c446_6, .int .i64 ((rd_T40 l0 a1).f7.f0), .int .i64 ((rd_T40 l0 a1).f7.f1), .int .i64 ((rd_T40 l0 a1).f7.f2), .int .i64 ((rd_T40 l0 a1).f8), .int .i64 0]) ?_ 11 _ rfl; (with_reducible repeat (first | refine blk_drewN ?_ _ | refine blk_drew ?_ | refine blk_alloc ?_ _)); refine blk_put (cs := #[.int .i64 ((rd_T40 l0 a1).f0), .int .i64 ((rd_T40 l0 a1).f1), .int .i64 ((rd_T40 l0 a1).f2), .slice A446_3 ((rd_T40 l0 a1).f3).length c446_3, .slice A446_4 ((rd_T40 l0 a1).f4).length c446_4, .slice A446_5 ((rd_T40 l0 a1).f5).length c446_5, .slice A446_6 ((rd_T40 l0 a1).f6).length c446_6, .int .i64 ((rd_T40 l0 a1).f7.f0), .int .i64 ((rd_T40 l0 a1).f7.f1), .int .i64 ((rd_T40 l0 a1).f7.f2), .int .i64 0, .int .i64 0]) ?_ 10 _ rfl; (with_reducible repeat (first | refine blk_drewN ?_ _ | refine blk_drew ?_ | refine blk_alloc ?_ _)); refine blk_put (cs := #[.int .i64 ((rd_T40 l0 a1).f0), .int .i64 ((rd_T40 l0 a1).f1), .int .i64 ((rd_T40 l0 a1).f2), .slice A446_3 ((rd_T40 l0 a1).f3).length c446_3, .slice A446_4 ((rd_T40 l0 a1).f4).length c446_4, .slice A446_5 ((rd_T40 l0 a1).f5).length c446_5, .slice A446_6 ((rd_T40 l0 a1).f6).length c446_6, .int .i64 ((rd_T40 l0 a1).f7.f0), .int .i64 ((rd_T40 l0 a1).f7.f1), .int .i64 0, .int .i64 0, .int .i64 0]) ?_ 9 _ rfl; (with_reducible repeat (first | refine blk_drewN ?_ _ | refine blk_drew ?_ | refine blk_alloc ?_ _)); refine blk_put (cs := #[.int .i64 ((rd_T40 l0 a1).f0), .int .i64 ((rd_T40 l0 a1).f1), .int .i64 ((rd_T40 l0 a1).f2), .slice A446_3 ((rd_T40 l0 a1).f3).length c446_3, .slice A446_4 ((rd_T40 l0 a1).f4).length c446_4, .slice A446_5 ((rd_T40 l0 a1).f5).length c446_5, .slice A446_6 ((rd_T40 l0 a1).f6).length c446_6, .int .i64 ((rd_T40 l0 a1).f7.f0), .int .i64 0, .int .i64 0, .int .i64 0, .int .i64 0]) ?_ 8 _ rfl; (with_reducible repeat (first | refine blk_drewN ?_ _ | refine blk_drew ?_ | refine blk_alloc ?_ _)); refine blk_put (cs := #[.int .i64 ((rd_T40 l0 a1).f0), .int .i64 ((rd_T40 l0 a1).f1), .int .i64 ((rd_T40 l0 a1).f2), .slice A446_3 ((rd_T40 l0 a1).f3).length c446_3, .slice A446_4 ((rd_T40 l0 a1).f4).length c446_4, .slice A446_5 ((rd_T40 l0 a1).f5).length c446_5, .slice A446_6 ((rd_T40 l0 a1).f6).length c446_6, .int .i64 0, .int .i64 0, .int .i64 0, .int .i64 0, .int .i64 0]) ?_ 7 _ rfl; (with_reducible repeat (first | refine blk_drewN ?_ _ | refine blk_drew ?_ | refine blk_alloc ?_ _)); refine blk_put (cs := #[.int .i64 ((rd_T40 l0 a1).f0), .int .i64 ((rd_T40 l0 a1).f1), .int .i64 ((rd_T40 l0 a1).f2), .slice A446_3 ((rd_T40 l0 a1).f3).length c446_3, .slice A446_4 ((rd_T40 l0 a1).f4).length c446_4, .slice A446_5 ((rd_T40 l0 a1).f5).length c446_5, .slice none 0 0, .int .i64 0, .int .i64 0, .int .i64 0, .int .i64 0, .int .i64 0]) ?_ 6 _ rfl; (with_reducible repeat (first | refine blk_drewN ?_ _ | refine blk_drew ?_ | refine blk_alloc ?_ _)); refine blk_put (cs := #[.int .i64 ((rd_T40 l0 a1).f0), .int .i64 ((rd_T40 l0 a1).f1), .int .i64 ((rd_T40 l0 a1).f2), .slice A446_3 ((rd_T40 l0 a1).f3).length c446_3, .slice A446_4 ((rd_T40 l0 a1).f4).length c446_4, .slice none 0 0, .slice none 0 0, .int .i64 0, .int .i64 0, .int .i64 0, .int .i64 0, .int .i64 0]) ?_ 5 _ rfl; (with_reducible repeat (first | refine blk_drewN ?_ _ | refine blk_drew ?_ | refine blk_alloc ?_ _)); refine blk_put (cs := #[.int .i64 ((rd_T40 l0 a1).f0), .int .i64 ((rd_T40 l0 a1).f1), .int .i64 ((rd_T40 l0 a1).f2), .slice A446_3 ((rd_T40 l0 a1).f3).length c446_3, .slice none 0 0, .slice none 0 0, .slice none 0 0, .int .i64 0, .int .i64 0, .int .i64 0, .int .i64 0, .int .i64 0]) ?_ 4 _ rfl; (with_reducible repeat (first | refine blk_drewN ?_ _ | refine blk_drew ?_ | refine blk_alloc ?_ _)); refine blk_put (cs := #[.int .i64 ((rd_T40 l0 a1).f0), .int .i64 ((rd_T40 l0 a1).f1), .int .i64 ((rd_T40 l0 a1).f2), .slice none 0 0, .slice none 0 0, .slice none 0 0, .slice none 0 0, .int .i64 0, .int .i64 0, .int .i64 0, .int .i64 0, .int .i64 0]) ?_ 3 _ rfl; (with_reducible repeat (first | refine blk_drewN ?_ _ | refine blk_drew ?_ | refine blk_alloc ?_ _)); refine blk_put (cs := #[.int .i64 ((rd_T40 l0 a1).f0), .int .i64 ((rd_T40 l0 a1).f1), .int .i64 0, .slice none 0 0, .slice none 0 0, .slice none 0 0, .slice none 0 0, .int .i64 0, .int .i64 0, .int .i64 0, .int .i64 0, .int .i64 0]) ?_ 2 _ rfl; (with_reducible repeat (first | refine blk_drewN ?_ _ | refine blk_drew ?_ | refine blk_alloc ?_ _)); refine blk_put (cs := #[.int .i64 ((rd_T40 l0 a1).f0), .int .i64 0, .int .i64 0, .slice none 0 0, .slice none 0 0, .slice none 0 0, .slice none 0 0, .int .i64 0, .int .i64 0, .int .i64 0, .int .i64 0, .int .i64 0]) ?_ 1 _ rfl; (with_reducible repeat (first | refine blk_drewN ?_ _ | refine blk_drew ?_ | refine blk_alloc ?_ _)); refine blk_put (cs := #[.int .i64 0, .int .i64 0, .int .i64 0, .slice none 0 0, .slice none 0 0, .slice none 0 0, .slice none 0 0, .int .i64 0, .int .i64 0, .int .i64 0, .int .i64 0, .int .i64 0]) ?_ 0 _ rfl; (with_reducible repeat (first | refine blk_drewN ?_ _ | refine blk_drew ?_ | refine blk_alloc ?_ _)); exact BK447.out⟩, ⟨by repeat (first | (with_reducible first | exact HB.out | apply below_alloc | apply pw_below_drewN | apply below_drew1 | refine below_set ?_ GE447.out) | exact HB.out)⟩⟩
      ·rw [if_neg c12] at H
       have c12b0 : (((rd_T40 l0 a1).f0) == 5) = false := beq_eq_false_iff_ne.mpr c12
       have c12b1 : (((rd_T40 l0 a1).f0) != 5) = true := bne_iff_ne.mpr c12
       have H' := Aside0.mk H
       clear H
       go_wp2
       go_meet
       case rel => exact ⟨_, ((((rd_T40 l0 a1).f0) == 6)), (by first | rfl | (simp; done) | (simp [*]; done)), H', ⟨by first | omega | exact Nat.le_refl _⟩, ⟨by (with_reducible repeat (first | refine blk_drewN ?_ _ | refine blk_drew ?_ | refine blk_alloc ?_ _)); refine blk_put (cs := #[.int .i64 ((rd_T40 l0 a1).f0), .int .i64 ((rd_T40 l0 a1).f1), .int .i64 ((rd_T40 l0 a1).f2), .slice A446_3 ((rd_T40 l0 a1).f3).length c446_3, .slice A446_4 ((rd_T40 l0 a1).f4).length c446_4, .slice A446_5 ((rd_T40 l0 a1).f5).length c446_5, .slice A446_6 ((rd_T40 l0 a1).f6).length c446_6, .int .i64 ((rd_T40 l0 a1).f7.f0), .int .i64 ((rd_T40 l0 a1).f7.f1), .int .i64 ((rd_T40 l0 a1).f7.f2), .int .i64 ((rd_T40 l0 a1).f8), .int .i64 0]) ?_ 11 _ rfl; (with_reducible repeat (first | refine blk_drewN ?_ _ | refine blk_drew ?_ | refine blk_alloc ?_ _)); refine blk_put (cs := #[.int .i64 ((rd_T40 l0 a1).f0), .int .i64 ((rd_T40 l0 a1).f1), .int .i64 ((rd_T40 l0 a1).f2), .slice A446_3 ((rd_T40 l0 a1).f3).length c446_3, .slice A446_4 ((rd_T40 l0 a1).f4).length c446_4, .slice A446_5 ((rd_T40 l0 a1).f5).length c446_5, .slice A446_6 ((rd_T40 l0 a1).f6).length c446_6, .int .i64 ((rd_T40 l0 a1).f7.f0), .int .i64 ((rd_T40 l0 a1).f7.f1), .int .i64 ((rd_T40 l0 a1).f7.f2), .int .i64 0, .int .i64 0]) ?_ 10 _ rfl; (with_reducible repeat (first | refine blk_drewN ?_ _ | refine blk_drew ?_ | refine blk_alloc ?_ _)); refine blk_put (cs := #[.int .i64 ((rd_T40 l0 a1).f0), .int .i64 ((rd_T40 l0 a1).f1), .int .i64 ((rd_T40 l0 a1).f2), .slice A446_3 ((rd_T40 l0 a1).f3).length c446_3, .slice A446_4 ((rd_T40 l0 a1).f4).length c446_4, .slice A446_5 ((rd_T40 l0 a1).f5).length c446_5, .slice A446_6 ((rd_T40 l0 a1).f6).length c446_6, .int .i64 ((rd_T40 l0 a1).f7.f0), .int .i64 ((rd_T40 l0 a1).f7.f1), .int .i64 0, .int .i64 0, .int .i64 0]) ?_ 9 _ rfl; (with_reducible repeat (first | refine blk_drewN ?_ _ | refine blk_drew ?_ | refine blk_alloc ?_ _)); refine blk_put (cs := #[.int .i64 ((rd_T40 l0 a1).f0), .int .i64 ((rd_T40 l0 a1).f1), .int .i64 ((rd_T40 l0 a1).f2), .slice A446_3 ((rd_T40 l0 a1).f3).length c446_3, .slice A446_4 ((rd_T40 l0 a1).f4).length c446_4, .slice A446_5 ((rd_T40 l0 a1).f5).length c446_5, .slice A446_6 ((rd_T40 l0 a1).f6).length c446_6, .int .i64 ((rd_T40 l0 a1).f7.f0), .int .i64 0, .int .i64 0, .int .i64 0, .int .i64 0]) ?_ 8 _ rfl; (with_reducible repeat (first | refine blk_drewN ?_ _ | refine blk_drew ?_ | refine blk_alloc ?_ _)); refine blk_put (cs := #[.int .i64 ((rd_T40 l0 a1).f0), .int .i64 ((rd_T40 l0 a1).f1), .int .i64 ((rd_T40 l0 a1).f2), .slice A446_3 ((rd_T40 l0 a1).f3).length c446_3, .slice A446_4 ((rd_T40 l0 a1).f4).length c446_4, .slice A446_5 ((rd_T40 l0 a1).f5).length c446_5, .slice A446_6 ((rd_T40 l0 a1).f6).length c446_6, .int .i64 0, .int .i64 0, .int .i64 0, .int .i64 0, .int .i64 0]) ?_ 7 _ rfl; (with_reducible repeat (first | refine blk_drewN ?_ _ | refine blk_drew ?_ | refine blk_alloc ?_ _)); refine blk_put (cs := #[.int .i64 ((rd_T40 l0 a1).f0), .int .i64 ((rd_T40 l0 a1).f1), .int .i64 ((rd_T40 l0 a1).f2), .slice A446_3 ((rd_T40 l0 a1).f3).length c446_3, .slice A446_4 ((rd_T40 l0 a1).f4).length c446_4, .slice A446_5 ((rd_T40 l0 a1).f5).length c446_5, .slice none 0 0, .int .i64 0, .int .i64 0, .int .i64 0, .int .i64 0, .int .i64 0]) ?_ 6 _ rfl; (with_reducible repeat (first | refine blk_drewN ?_ _ | refine blk_drew ?_ | refine blk_alloc ?_ _)); refine blk_put (cs := #[.int .i64 ((rd_T40 l0 a1).f0), .int .i64 ((rd_T40 l0 a1).f1), .int .i64 ((rd_T40 l0 a1).f2), .slice A446_3 ((rd_T40 l0 a1).f3).length c446_3, .slice A446_4 ((rd_T40 l0 a1).f4).length c446_4, .slice none 0 0, .slice none 0 0, .int .i64 0, .int .i64 0, .int .i64 0, .int .i64 0, .int .i64 0]) ?_ 5 _ rfl; (with_reducible repeat (first | refine blk_drewN ?_ _ | refine blk_drew ?_ | refine blk_alloc ?_ _)); refine blk_put (cs := #[.int .i64 ((rd_T40 l0 a1).f0), .int .i64 ((rd_T40 l0 a1).f1), .int .i64 ((rd_T40 l0 a1).f2), .slice A446_3 ((rd_T40 l0 a1).f3).length c446_3, .slice none 0 0, .slice none 0 0, .slice none 0 0, .int .i64 0, .int .i64 0, .int .i64 0, .int .i64 0, .int .i64 0]) ?_ 4 _ rfl; (with_reducible repeat (first | refine blk_drewN ?_ _ | refine blk_drew ?_ | refine blk_alloc ?_ _)); refine blk_put (cs := #[.int .i64 ((rd_T40 l0 a1).f0), .int .i64 ((rd_T40 l0 a1).f1), .int .i64 ((rd_T40 l0 a1).f2), .slice none 0 0, .slice none 0 0, .slice none 0 0, .slice none 0 0, .int .i64 0, .int .i64 0, .int .i64 0, .int .i64 0, .int .i64 0]) ?_ 3 _ rfl; (with_reducible repeat (first | refine blk_drewN ?_ _ | refine blk_drew ?_ | refine blk_alloc ?_ _)); refine blk_put (cs := #[.int .i64 ((rd_T40 l0 a1).f0), .int .i64 ((rd_T40 l0 a1).f1), .int .i64 0, .slice none 0 0, .slice none 0 0, .slice none 0 0, .slice none 0 0, .int .i64 0, .int .i64 0, .int .i64 0, .int .i64 0, .int .i64 0]) ?_ 2 _ rfl; (with_reducible repeat (first | refine blk_drewN ?_ _ | refine blk_drew ?_ | refine blk_alloc ?_ _)); refine blk_put (cs := #[.int .i64 ((rd_T40 l0 a1).f0), .int .i64 0, .int .i64 0, .slice none 0 0, .slice none 0 0, .slice none 0 0, .slice none 0 0, .int .i64 0, .int .i64 0, .int .i64 0, .int .i64 0, .int .i64 0]) ?_ 1 _ rfl; (with_reducible repeat (first | refine blk_drewN ?_ _ | refine blk_drew ?_ | refine blk_alloc ?_ _)); refine blk_put (cs := #[.int .i64 0, .int .i64 0, .int .i64 0, .slice none 0 0, .slice none 0 0, .slice none 0 0, .slice none 0 0, .int .i64 0, .int .i64 0, .int .i64 0, .int .i64 0, .int .i64 0]) ?_ 0 _ rfl; (with_reducible repeat (first | refine blk_drewN ?_ _ | refine blk_drew ?_ | refine blk_alloc ?_ _)); exact BK447.out⟩, ⟨by repeat (first | (with_reducible first | exact HB.out | apply below_alloc | apply pw_below_drewN | apply below_drew1 | refine below_set ?_ GE447.out) | exact HB.out)⟩⟩
    case rest =>
     clear HC8
     try clear c1
     try clear p2
     try clear c3
     try clear c3b0
     try clear c4
     try clear c4b0
     try clear p4
     try clear q4
     try clear hx4
     try clear c5
     try clear c5b0
     try clear c5b1
     try clear c11
     try clear c11b0
     try clear c11b1
     try clear c12
     try clear c12b0
     try clear c12b1
     try clear hcz10_0
     try clear hcz10_1
     try clear hcz10_10
     try clear hcz10_11
     try clear hcz10_2
     try clear hcz10_3
     try clear hcz10_4
     try clear hcz10_5
     try clear hcz10_6
     try clear hcz10_7
     try clear hcz10_8
     try clear hcz10_9
     try clear hcz7_0
     try clear hcz7_1
     try clear hcz7_10
     try clear hcz7_11
     try clear hcz7_2
     try clear hcz7_3
     try clear hcz7_4
     try clear hcz7_5
     try clear hcz7_6
     try clear hcz7_7
     try clear hcz7_8
     try clear hcz7_9
     try clear hfz10_0
     try clear hfz10_1
     try clear hfz10_10
     try clear hfz10_11
     try clear hfz10_2
     try clear hfz10_3
     try clear hfz10_4
     try clear hfz10_5
     try clear hfz10_6
     try clear hfz10_7
     try clear hfz10_8
     try clear hfz10_9
     try clear hfz7_0
     try clear hfz7_1
     try clear hfz7_10
     try clear hfz7_11
     try clear hfz7_2
     try clear hfz7_3
     try clear hfz7_4
     try clear hfz7_5
     try clear hfz7_6
     try clear hfz7_7
     try clear hfz7_8
     try clear hfz7_9
     try clear hx446_0
     try clear hx446_1
     try clear hx446_10
     try clear hx446_11
     try clear hx446_2
     try clear hx446_3
     try clear hx446_4
     try clear hx446_5
     try clear hx446_6
     try clear hx446_7
     try clear hx446_8
     try clear hx446_9
     try clear p446
     try clear q446
     obtain ⟨kq, x16_7, rfl, HA, HJ7, BK447, HB⟩ := hcut
     cases kq with
     | zero => exact absurd HA.out (by simp [rescindref40_node.j0])
     | succ kj7 =>
      have H := HA.out
      clear HA
      simp only [rescindref40_node.j0] at H
      by_cases c13 : x16_7 = true
      ·subst c13
       have H1 : ((rescindref40_node.f kj7 l0 ((rd_T40 l0 a1).f1)).bind fun t448 => ((rescindref40_node.f kj7 l0 ((rd_T40 l0 a1).f2)).bind fun t449 => (if t448 < t449 then (some t449) else (some t448)))) = some r := by rw [if_pos rfl] at H; exact H
       clear H
       have H := H1
       clear H1
       replace H := Option.bind_eq_some_iff.mp H
       obtain ⟨t448, A140, H⟩ := H
       replace H : ((rescindref40_node.f kj7 l0 ((rd_T40 l0 a1).f2)).bind fun t449 => (if t448 < t449 then (some t449) else (some t448))) = some r := H
       have A14 := Aside0.mk A140
       clear A140
       replace H := Option.bind_eq_some_iff.mp H
       obtain ⟨t449, A150, H⟩ := H
       replace H : (if t448 < t449 then (some t449) else (some t448)) = some r := H
       have A15 := Aside0.mk A150
       clear A150
       by_cases c16 : t448 < t449
       ·rw [if_pos c16] at H
        have c16b0 : decide (t448 < t449) = true := decide_eq_true c16
        clear c16
        obtain rfl := Option.some.inj H
        have hcz17_0 : wc.cell? ⟨gb447, 0, none⟩ = some (.int .i64 ((rd_T40 l0 a1).f0)) := (blk_cell BK447.out 0).trans rfl
        have hcz17_1 : wc.cell? ⟨gb447, 1, none⟩ = some (.int .i64 ((rd_T40 l0 a1).f1)) := (blk_cell BK447.out 1).trans rfl
        have hcz17_2 : wc.cell? ⟨gb447, 2, none⟩ = some (.int .i64 ((rd_T40 l0 a1).f2)) := (blk_cell BK447.out 2).trans rfl
        have hcz17_3 : wc.cell? ⟨gb447, 3, none⟩ = some (.slice A446_3 ((rd_T40 l0 a1).f3).length c446_3) := (blk_cell BK447.out 3).trans rfl
        have hcz17_4 : wc.cell? ⟨gb447, 4, none⟩ = some (.slice A446_4 ((rd_T40 l0 a1).f4).length c446_4) := (blk_cell BK447.out 4).trans rfl
        have hcz17_5 : wc.cell? ⟨gb447, 5, none⟩ = some (.slice A446_5 ((rd_T40 l0 a1).f5).length c446_5) := (blk_cell BK447.out 5).trans rfl
        have hcz17_6 : wc.cell? ⟨gb447, 6, none⟩ = some (.slice A446_6 ((rd_T40 l0 a1).f6).length c446_6) := (blk_cell BK447.out 6).trans rfl
        have hcz17_7 : wc.cell? ⟨gb447, 7, none⟩ = some (.int .i64 ((rd_T40 l0 a1).f7.f0)) := (blk_cell BK447.out 7).trans rfl
        have hcz17_8 : wc.cell? ⟨gb447, 8, none⟩ = some (.int .i64 ((rd_T40 l0 a1).f7.f1)) := (blk_cell BK447.out 8).trans rfl
        have hcz17_9 : wc.cell? ⟨gb447, 9, none⟩ = some (.int .i64 ((rd_T40 l0 a1).f7.f2)) := (blk_cell BK447.out 9).trans rfl
        have hcz17_10 : wc.cell? ⟨gb447, 10, none⟩ = some (.int .i64 ((rd_T40 l0 a1).f8)) := (blk_cell BK447.out 10).trans rfl
        have hcz17_11 : wc.cell? ⟨gb447, 11, none⟩ = some (.int .i64 ((rd_T40 l0 a1).f9)) := (blk_cell BK447.out 11).trans rfl
        have hfz17_0 := blk_frozen BK447.out 0
        have hfz17_1 := blk_frozen BK447.out 1
        have hfz17_2 := blk_frozen BK447.out 2
        have hfz17_3 := blk_frozen BK447.out 3
        have hfz17_4 := blk_frozen BK447.out 4
        have hfz17_5 := blk_frozen BK447.out 5
        have hfz17_6 := blk_frozen BK447.out 6
        have hfz17_7 := blk_frozen BK447.out 7
        have hfz17_8 := blk_frozen BK447.out 8
        have hfz17_9 := blk_frozen BK447.out 9
        have hfz17_10 := blk_frozen BK447.out 10
        have hfz17_11 := blk_frozen BK447.out 11
        go_wp2_with (first | ((with_reducible refine gate_callee (f := 15) rfl ?_); refine goesL_ (some 23) rfl rfl Try.func15 (by kernel_rfl) rfl #[.slice (some ad446) l0.length c0, .int .i64 ((rd_T40 l0 a1).f1)] rfl (by (try simp only [List.map_toArray, List.map_cons, List.map_nil]); first | done | rfl | (simp only [List.length_drop, List.length_take]; rfl)) ?_; (with_reducible refine (ih kj7 (by have := HJ7.out; omega) _ _ l0 ((rd_T40 l0 a1).f1) t448 _ ?side1 ?side2 A14.out).mono ?_); (case side1 => repeat (first | exact (Kd.C_below HR0.out HB.out) | (with_reducible refine Kd.C_alloc ?_ _) | (with_reducible refine Kd.C_drewN ?_ _) | (with_reducible refine Kd.C_drew ?_))); (case side2 => exact HC0.out); rintro e w18 ⟨rfl, hb⟩; refine ⟨_, rfl, ?_⟩; have n0_ := Aside0.mk (blk_below (g := gb447) (o := .cells #[.int .i64 ((rd_T40 l0 a1).f0), .int .i64 ((rd_T40 l0 a1).f1), .int .i64 ((rd_T40 l0 a1).f2), .slice A446_3 ((rd_T40 l0 a1).f3).length c446_3, .slice A446_4 ((rd_T40 l0 a1).f4).length c446_4, .slice A446_5 ((rd_T40 l0 a1).f5).length c446_5, .slice A446_6 ((rd_T40 l0 a1).f6).length c446_6, .int .i64 ((rd_T40 l0 a1).f7.f0), .int .i64 ((rd_T40 l0 a1).f7.f1), .int .i64 ((rd_T40 l0 a1).f7.f2), .int .i64 ((rd_T40 l0 a1).f8), .int .i64 ((rd_T40 l0 a1).f9)] 40 (0, 0)) (by (with_reducible repeat (first | refine blk_drewN ?_ _ | refine blk_drew ?_ | refine blk_alloc ?_ _)); exact BK447.out) hb); have n1_ := Aside0.mk (below_step (by repeat (first | (with_reducible first | exact HB.out | apply below_alloc | apply pw_below_drewN | apply below_drew1 | refine below_set ?_ GE447.out) | exact HB.out)) hb); clear BK447; clear HB; have BK447 := n0_; have HB := n1_; clear n0_ n1_; (try clear hb); (try clear hb2); (try clear hk); (try clear hi); have hcz19_0 : w18.cell? ⟨gb447, 0, none⟩ = some (.int .i64 ((rd_T40 l0 a1).f0)) := (blk_cell BK447.out 0).trans rfl; have hcz19_1 : w18.cell? ⟨gb447, 1, none⟩ = some (.int .i64 ((rd_T40 l0 a1).f1)) := (blk_cell BK447.out 1).trans rfl; have hcz19_2 : w18.cell? ⟨gb447, 2, none⟩ = some (.int .i64 ((rd_T40 l0 a1).f2)) := (blk_cell BK447.out 2).trans rfl; have hcz19_3 : w18.cell? ⟨gb447, 3, none⟩ = some (.slice A446_3 ((rd_T40 l0 a1).f3).length c446_3) := (blk_cell BK447.out 3).trans rfl; have hcz19_4 : w18.cell? ⟨gb447, 4, none⟩ = some (.slice A446_4 ((rd_T40 l0 a1).f4).length c446_4) := (blk_cell BK447.out 4).trans rfl; have hcz19_5 : w18.cell? ⟨gb447, 5, none⟩ = some (.slice A446_5 ((rd_T40 l0 a1).f5).length c446_5) := (blk_cell BK447.out 5).trans rfl; have hcz19_6 : w18.cell? ⟨gb447, 6, none⟩ = some (.slice A446_6 ((rd_T40 l0 a1).f6).length c446_6) := (blk_cell BK447.out 6).trans rfl; have hcz19_7 : w18.cell? ⟨gb447, 7, none⟩ = some (.int .i64 ((rd_T40 l0 a1).f7.f0)) := (blk_cell BK447.out 7).trans rfl; have hcz19_8 : w18.cell? ⟨gb447, 8, none⟩ = some (.int .i64 ((rd_T40 l0 a1).f7.f1)) := (blk_cell BK447.out 8).trans rfl; have hcz19_9 : w18.cell? ⟨gb447, 9, none⟩ = some (.int .i64 ((rd_T40 l0 a1).f7.f2)) := (blk_cell BK447.out 9).trans rfl; have hcz19_10 : w18.cell? ⟨gb447, 10, none⟩ = some (.int .i64 ((rd_T40 l0 a1).f8)) := (blk_cell BK447.out 10).trans rfl; have hcz19_11 : w18.cell? ⟨gb447, 11, none⟩ = some (.int .i64 ((rd_T40 l0 a1).f9)) := (blk_cell BK447.out 11).trans rfl; have hfz19_0 := blk_frozen BK447.out 0; have hfz19_1 := blk_frozen BK447.out 1; have hfz19_2 := blk_frozen BK447.out 2; have hfz19_3 := blk_frozen BK447.out 3; have hfz19_4 := blk_frozen BK447.out 4; have hfz19_5 := blk_frozen BK447.out 5; have hfz19_6 := blk_frozen BK447.out 6; have hfz19_7 := blk_frozen BK447.out 7; have hfz19_8 := blk_frozen BK447.out 8; have hfz19_9 := blk_frozen BK447.out 9; have hfz19_10 := blk_frozen BK447.out 10; have hfz19_11 := blk_frozen BK447.out 11) | ((with_reducible refine gate_callee (f := 15) rfl ?_); refine goesL_ (some 27) rfl rfl Try.func15 (by kernel_rfl) rfl #[.slice (some ad446) l0.length c0, .int .i64 ((rd_T40 l0 a1).f2)] rfl (by (try simp only [List.map_toArray, List.map_cons, List.map_nil]); first | done | rfl | (simp only [List.length_drop, List.length_take]; rfl)) ?_; (with_reducible refine (ih kj7 (by have := HJ7.out; omega) _ _ l0 ((rd_T40 l0 a1).f2) t449 _ ?side1 ?side2 A15.out).mono ?_); (case side1 => repeat (first | exact (Kd.C_below HR0.out HB.out) | (with_reducible refine Kd.C_alloc ?_ _) | (with_reducible refine Kd.C_drewN ?_ _) | (with_reducible refine Kd.C_drew ?_))); (case side2 => exact HC0.out); rintro e w20 ⟨rfl, hb⟩; refine ⟨_, rfl, ?_⟩; have n0_ := Aside0.mk (blk_below (g := gb447) (o := .cells #[.int .i64 ((rd_T40 l0 a1).f0), .int .i64 ((rd_T40 l0 a1).f1), .int .i64 ((rd_T40 l0 a1).f2), .slice A446_3 ((rd_T40 l0 a1).f3).length c446_3, .slice A446_4 ((rd_T40 l0 a1).f4).length c446_4, .slice A446_5 ((rd_T40 l0 a1).f5).length c446_5, .slice A446_6 ((rd_T40 l0 a1).f6).length c446_6, .int .i64 ((rd_T40 l0 a1).f7.f0), .int .i64 ((rd_T40 l0 a1).f7.f1), .int .i64 ((rd_T40 l0 a1).f7.f2), .int .i64 ((rd_T40 l0 a1).f8), .int .i64 ((rd_T40 l0 a1).f9)] 40 (0, 0)) (by (with_reducible repeat (first | refine blk_drewN ?_ _ | refine blk_drew ?_ | refine blk_alloc ?_ _)); exact BK447.out) hb); have n1_ := Aside0.mk (below_step (by repeat (first | (with_reducible first | exact HB.out | apply below_alloc | apply pw_below_drewN | apply below_drew1 | refine below_set ?_ GE447.out) | exact HB.out)) hb); clear BK447; clear HB; have BK447 := n0_; have HB := n1_; clear n0_ n1_; (try clear hb); (try clear hb2); (try clear hk); (try clear hi)))
        go_ret
        exact ⟨by first | rfl | (simp [errW_none, errW_some] <;> rfl) | (simp [*, errW_none, errW_some] <;> rfl), by repeat (first | (with_reducible first | exact HB.out | apply below_alloc | apply pw_below_drewN | apply below_drew1 | refine below_set ?_ GE447.out) | exact HB.out)⟩
       ·rw [if_neg c16] at H
        have c16b0 : decide (t448 < t449) = false := decide_eq_false c16
        clear c16
        obtain rfl := Option.some.inj H
        have hcz21_0 : wc.cell? ⟨gb447, 0, none⟩ = some (.int .i64 ((rd_T40 l0 a1).f0)) := (blk_cell BK447.out 0).trans rfl
        have hcz21_1 : wc.cell? ⟨gb447, 1, none⟩ = some (.int .i64 ((rd_T40 l0 a1).f1)) := (blk_cell BK447.out 1).trans rfl
        have hcz21_2 : wc.cell? ⟨gb447, 2, none⟩ = some (.int .i64 ((rd_T40 l0 a1).f2)) := (blk_cell BK447.out 2).trans rfl
        have hcz21_3 : wc.cell? ⟨gb447, 3, none⟩ = some (.slice A446_3 ((rd_T40 l0 a1).f3).length c446_3) := (blk_cell BK447.out 3).trans rfl
        have hcz21_4 : wc.cell? ⟨gb447, 4, none⟩ = some (.slice A446_4 ((rd_T40 l0 a1).f4).length c446_4) := (blk_cell BK447.out 4).trans rfl
        have hcz21_5 : wc.cell? ⟨gb447, 5, none⟩ = some (.slice A446_5 ((rd_T40 l0 a1).f5).length c446_5) := (blk_cell BK447.out 5).trans rfl
        have hcz21_6 : wc.cell? ⟨gb447, 6, none⟩ = some (.slice A446_6 ((rd_T40 l0 a1).f6).length c446_6) := (blk_cell BK447.out 6).trans rfl
        have hcz21_7 : wc.cell? ⟨gb447, 7, none⟩ = some (.int .i64 ((rd_T40 l0 a1).f7.f0)) := (blk_cell BK447.out 7).trans rfl
        have hcz21_8 : wc.cell? ⟨gb447, 8, none⟩ = some (.int .i64 ((rd_T40 l0 a1).f7.f1)) := (blk_cell BK447.out 8).trans rfl
        have hcz21_9 : wc.cell? ⟨gb447, 9, none⟩ = some (.int .i64 ((rd_T40 l0 a1).f7.f2)) := (blk_cell BK447.out 9).trans rfl
        have hcz21_10 : wc.cell? ⟨gb447, 10, none⟩ = some (.int .i64 ((rd_T40 l0 a1).f8)) := (blk_cell BK447.out 10).trans rfl
        have hcz21_11 : wc.cell? ⟨gb447, 11, none⟩ = some (.int .i64 ((rd_T40 l0 a1).f9)) := (blk_cell BK447.out 11).trans rfl
        have hfz21_0 := blk_frozen BK447.out 0
        have hfz21_1 := blk_frozen BK447.out 1
        have hfz21_2 := blk_frozen BK447.out 2
        have hfz21_3 := blk_frozen BK447.out 3
        have hfz21_4 := blk_frozen BK447.out 4
        have hfz21_5 := blk_frozen BK447.out 5
        have hfz21_6 := blk_frozen BK447.out 6
        have hfz21_7 := blk_frozen BK447.out 7
        have hfz21_8 := blk_frozen BK447.out 8
        have hfz21_9 := blk_frozen BK447.out 9
        have hfz21_10 := blk_frozen BK447.out 10
        have hfz21_11 := blk_frozen BK447.out 11
        go_wp2_with (first | ((with_reducible refine gate_callee (f := 15) rfl ?_); refine goesL_ (some 23) rfl rfl Try.func15 (by kernel_rfl) rfl #[.slice (some ad446) l0.length c0, .int .i64 ((rd_T40 l0 a1).f1)] rfl (by (try simp only [List.map_toArray, List.map_cons, List.map_nil]); first | done | rfl | (simp only [List.length_drop, List.length_take]; rfl)) ?_; (with_reducible refine (ih kj7 (by have := HJ7.out; omega) _ _ l0 ((rd_T40 l0 a1).f1) t448 _ ?side1 ?side2 A14.out).mono ?_); (case side1 => repeat (first | exact (Kd.C_below HR0.out HB.out) | (with_reducible refine Kd.C_alloc ?_ _) | (with_reducible refine Kd.C_drewN ?_ _) | (with_reducible refine Kd.C_drew ?_))); (case side2 => exact HC0.out); rintro e w22 ⟨rfl, hb⟩; refine ⟨_, rfl, ?_⟩; have n0_ := Aside0.mk (blk_below (g := gb447) (o := .cells #[.int .i64 ((rd_T40 l0 a1).f0), .int .i64 ((rd_T40 l0 a1).f1), .int .i64 ((rd_T40 l0 a1).f2), .slice A446_3 ((rd_T40 l0 a1).f3).length c446_3, .slice A446_4 ((rd_T40 l0 a1).f4).length c446_4, .slice A446_5 ((rd_T40 l0 a1).f5).length c446_5, .slice A446_6 ((rd_T40 l0 a1).f6).length c446_6, .int .i64 ((rd_T40 l0 a1).f7.f0), .int .i64 ((rd_T40 l0 a1).f7.f1), .int .i64 ((rd_T40 l0 a1).f7.f2), .int .i64 ((rd_T40 l0 a1).f8), .int .i64 ((rd_T40 l0 a1).f9)] 40 (0, 0)) (by (with_reducible repeat (first | refine blk_drewN ?_ _ | refine blk_drew ?_ | refine blk_alloc ?_ _)); exact BK447.out) hb); have n1_ := Aside0.mk (below_step (by repeat (first | (with_reducible first | exact HB.out | apply below_alloc | apply pw_below_drewN | apply below_drew1 | refine below_set ?_ GE447.out) | exact HB.out)) hb); clear BK447; clear HB; have BK447 := n0_; have HB := n1_; clear n0_ n1_; (try clear hb); (try clear hb2); (try clear hk); (try clear hi); have hcz23_0 : w22.cell? ⟨gb447, 0, none⟩ = some (.int .i64 ((rd_T40 l0 a1).f0)) := (blk_cell BK447.out 0).trans rfl; have hcz23_1 : w22.cell? ⟨gb447, 1, none⟩ = some (.int .i64 ((rd_T40 l0 a1).f1)) := (blk_cell BK447.out 1).trans rfl; have hcz23_2 : w22.cell? ⟨gb447, 2, none⟩ = some (.int .i64 ((rd_T40 l0 a1).f2)) := (blk_cell BK447.out 2).trans rfl; have hcz23_3 : w22.cell? ⟨gb447, 3, none⟩ = some (.slice A446_3 ((rd_T40 l0 a1).f3).length c446_3) := (blk_cell BK447.out 3).trans rfl; have hcz23_4 : w22.cell? ⟨gb447, 4, none⟩ = some (.slice A446_4 ((rd_T40 l0 a1).f4).length c446_4) := (blk_cell BK447.out 4).trans rfl; have hcz23_5 : w22.cell? ⟨gb447, 5, none⟩ = some (.slice A446_5 ((rd_T40 l0 a1).f5).length c446_5) := (blk_cell BK447.out 5).trans rfl; have hcz23_6 : w22.cell? ⟨gb447, 6, none⟩ = some (.slice A446_6 ((rd_T40 l0 a1).f6).length c446_6) := (blk_cell BK447.out 6).trans rfl; have hcz23_7 : w22.cell? ⟨gb447, 7, none⟩ = some (.int .i64 ((rd_T40 l0 a1).f7.f0)) := (blk_cell BK447.out 7).trans rfl; have hcz23_8 : w22.cell? ⟨gb447, 8, none⟩ = some (.int .i64 ((rd_T40 l0 a1).f7.f1)) := (blk_cell BK447.out 8).trans rfl; have hcz23_9 : w22.cell? ⟨gb447, 9, none⟩ = some (.int .i64 ((rd_T40 l0 a1).f7.f2)) := (blk_cell BK447.out 9).trans rfl; have hcz23_10 : w22.cell? ⟨gb447, 10, none⟩ = some (.int .i64 ((rd_T40 l0 a1).f8)) := (blk_cell BK447.out 10).trans rfl; have hcz23_11 : w22.cell? ⟨gb447, 11, none⟩ = some (.int .i64 ((rd_T40 l0 a1).f9)) := (blk_cell BK447.out 11).trans rfl; have hfz23_0 := blk_frozen BK447.out 0; have hfz23_1 := blk_frozen BK447.out 1; have hfz23_2 := blk_frozen BK447.out 2; have hfz23_3 := blk_frozen BK447.out 3; have hfz23_4 := blk_frozen BK447.out 4; have hfz23_5 := blk_frozen BK447.out 5; have hfz23_6 := blk_frozen BK447.out 6; have hfz23_7 := blk_frozen BK447.out 7; have hfz23_8 := blk_frozen BK447.out 8; have hfz23_9 := blk_frozen BK447.out 9; have hfz23_10 := blk_frozen BK447.out 10; have hfz23_11 := blk_frozen BK447.out 11) | ((with_reducible refine gate_callee (f := 15) rfl ?_); refine goesL_ (some 27) rfl rfl Try.func15 (by kernel_rfl) rfl #[.slice (some ad446) l0.length c0, .int .i64 ((rd_T40 l0 a1).f2)] rfl (by (try simp only [List.map_toArray, List.map_cons, List.map_nil]); first | done | rfl | (simp only [List.length_drop, List.length_take]; rfl)) ?_; (with_reducible refine (ih kj7 (by have := HJ7.out; omega) _ _ l0 ((rd_T40 l0 a1).f2) t449 _ ?side1 ?side2 A15.out).mono ?_); (case side1 => repeat (first | exact (Kd.C_below HR0.out HB.out) | (with_reducible refine Kd.C_alloc ?_ _) | (with_reducible refine Kd.C_drewN ?_ _) | (with_reducible refine Kd.C_drew ?_))); (case side2 => exact HC0.out); rintro e w24 ⟨rfl, hb⟩; refine ⟨_, rfl, ?_⟩; have n0_ := Aside0.mk (blk_below (g := gb447) (o := .cells #[.int .i64 ((rd_T40 l0 a1).f0), .int .i64 ((rd_T40 l0 a1).f1), .int .i64 ((rd_T40 l0 a1).f2), .slice A446_3 ((rd_T40 l0 a1).f3).length c446_3, .slice A446_4 ((rd_T40 l0 a1).f4).length c446_4, .slice A446_5 ((rd_T40 l0 a1).f5).length c446_5, .slice A446_6 ((rd_T40 l0 a1).f6).length c446_6, .int .i64 ((rd_T40 l0 a1).f7.f0), .int .i64 ((rd_T40 l0 a1).f7.f1), .int .i64 ((rd_T40 l0 a1).f7.f2), .int .i64 ((rd_T40 l0 a1).f8), .int .i64 ((rd_T40 l0 a1).f9)] 40 (0, 0)) (by (with_reducible repeat (first | refine blk_drewN ?_ _ | refine blk_drew ?_ | refine blk_alloc ?_ _)); exact BK447.out) hb); have n1_ := Aside0.mk (below_step (by repeat (first | (with_reducible first | exact HB.out | apply below_alloc | apply pw_below_drewN | apply below_drew1 | refine below_set ?_ GE447.out) | exact HB.out)) hb); clear BK447; clear HB; have BK447 := n0_; have HB := n1_; clear n0_ n1_; (try clear hb); (try clear hb2); (try clear hk); (try clear hi)))
        go_ret
        exact ⟨by first | rfl | (simp [errW_none, errW_some] <;> rfl) | (simp [*, errW_none, errW_some] <;> rfl), by repeat (first | (with_reducible first | exact HB.out | apply below_alloc | apply pw_below_drewN | apply below_drew1 | refine below_set ?_ GE447.out) | exact HB.out)⟩
      ·replace c13 := Bool.eq_false_iff.mpr c13
       subst c13
       have H1 : (if ((rd_T40 l0 a1).f0) = 8 then (rescindref40_node.j1 kj7 l0 (((rd_T40 l0 a1).f0) == 8) ((rd_T40 l0 a1).f0) ((rd_T40 l0 a1).f1) ((rd_T40 l0 a1).f2) ((rd_T40 l0 a1).f3) ((rd_T40 l0 a1).f4) ((rd_T40 l0 a1).f5) ((rd_T40 l0 a1).f6) ((rd_T40 l0 a1).f7.f0) ((rd_T40 l0 a1).f7.f1) ((rd_T40 l0 a1).f7.f2) ((rd_T40 l0 a1).f8) ((rd_T40 l0 a1).f9)) else (rescindref40_node.j1 kj7 l0 (((rd_T40 l0 a1).f0) == 9) ((rd_T40 l0 a1).f0) ((rd_T40 l0 a1).f1) ((rd_T40 l0 a1).f2) ((rd_T40 l0 a1).f3) ((rd_T40 l0 a1).f4) ((rd_T40 l0 a1).f5) ((rd_T40 l0 a1).f6) ((rd_T40 l0 a1).f7.f0) ((rd_T40 l0 a1).f7.f1) ((rd_T40 l0 a1).f7.f2) ((rd_T40 l0 a1).f8) ((rd_T40 l0 a1).f9))) = some r := by rw [if_neg (show ¬ (false = true) by decide)] at H; exact H
       clear H
       have H := H1
       clear H1
       have HC25 := Aside0.mk H
       clear H
       go_upto_if 33 with (fail)
       go_cut [33] (fun v33 wc => ∃ (kq : Nat) (x33_24 : Bool), v33 = .bool x33_24 ∧ Aside0 (rescindref40_node.j1 kq l0 x33_24 ((rd_T40 l0 a1).f0) ((rd_T40 l0 a1).f1) ((rd_T40 l0 a1).f2) ((rd_T40 l0 a1).f3) ((rd_T40 l0 a1).f4) ((rd_T40 l0 a1).f5) ((rd_T40 l0 a1).f6) ((rd_T40 l0 a1).f7.f0) ((rd_T40 l0 a1).f7.f1) ((rd_T40 l0 a1).f7.f2) ((rd_T40 l0 a1).f8) ((rd_T40 l0 a1).f9) = some r) ∧ Aside0 (kq ≤ kj7) ∧ Aside0 (wc.heap[gb447]? = some (.cells #[.int .i64 ((rd_T40 l0 a1).f0), .int .i64 ((rd_T40 l0 a1).f1), .int .i64 ((rd_T40 l0 a1).f2), (.slice A446_3 ((rd_T40 l0 a1).f3).length c446_3), (.slice A446_4 ((rd_T40 l0 a1).f4).length c446_4), (.slice A446_5 ((rd_T40 l0 a1).f5).length c446_5), (.slice A446_6 ((rd_T40 l0 a1).f6).length c446_6), .int .i64 ((rd_T40 l0 a1).f7.f0), .int .i64 ((rd_T40 l0 a1).f7.f1), .int .i64 ((rd_T40 l0 a1).f7.f2), .int .i64 ((rd_T40 l0 a1).f8), .int .i64 ((rd_T40 l0 a1).f9)] 40 (0, 0))) ∧ Aside0 (Below w.heap.size w wc))
       case first =>
        have H := HC25.out
        clear HC25
        by_cases c26 : ((rd_T40 l0 a1).f0) = 8
        ·rw [if_pos c26] at H
         have c26b0 : (((rd_T40 l0 a1).f0) == 8) = true := beq_iff_eq.mpr c26
         have c26b1 : (((rd_T40 l0 a1).f0) != 8) = false := bne_eq_false_iff_eq.mpr c26
         clear c26
         (first | rw [c26b0] | (simp only [i64_w, i32_w]; rw [c26b0]) | skip)
         have H' := Aside0.mk H
         clear H
         go_wp2
         go_meet
         case rel => exact ⟨_, ((((rd_T40 l0 a1).f0) == 8)), (by first | rfl | (simp; done) | (simp [*]; done)), H', ⟨by have := HJ7.out; first | omega | exact Nat.le_refl _⟩, ⟨by (with_reducible repeat (first | refine blk_drewN ?_ _ | refine blk_drew ?_ | refine blk_alloc ?_ _)); exact BK447.out⟩, ⟨by repeat (first | (with_reducible first | exact HB.out | apply below_alloc | apply pw_below_drewN | apply below_drew1 | refine below_set ?_ GE447.out) | exact HB.out)⟩⟩
        ·rw [if_neg c26] at H
         have c26b0 : (((rd_T40 l0 a1).f0) == 8) = false := beq_eq_false_iff_ne.mpr c26
         have c26b1 : (((rd_T40 l0 a1).f0) != 8) = true := bne_iff_ne.mpr c26
         (first | rw [c26b0] | (simp only [i64_w, i32_w]; rw [c26b0]) | skip)
         have H' := Aside0.mk H
         clear H
         go_wp2
         go_meet
         case rel => exact ⟨_, ((((rd_T40 l0 a1).f0) == 9)), (by first | rfl | (simp; done) | (simp [*]; done)), H', ⟨by have := HJ7.out; first | omega | exact Nat.le_refl _⟩, ⟨by (with_reducible repeat (first | refine blk_drewN ?_ _ | refine blk_drew ?_ | refine blk_alloc ?_ _)); exact BK447.out⟩, ⟨by repeat (first | (with_reducible first | exact HB.out | apply below_alloc | apply pw_below_drewN | apply below_drew1 | refine below_set ?_ GE447.out) | exact HB.out)⟩⟩
       case rest =>
        clear HC25
        try clear c1
        try clear c2
        try clear p2
        try clear c3
        try clear c3b0
        try clear c4
        try clear c4b0
        try clear p4
        try clear q4
        try clear hx4
        try clear c5
        try clear c5b0
        try clear c5b1
        try clear c11
        try clear c11b0
        try clear c11b1
        try clear c12
        try clear c12b0
        try clear c12b1
        try clear c13
        try clear c15
        try clear c16
        try clear c16b0
        try clear c26
        try clear c26b0
        try clear c26b1
        try clear hcz10_0
        try clear hcz10_1
        try clear hcz10_10
        try clear hcz10_11
        try clear hcz10_2
        try clear hcz10_3
        try clear hcz10_4
        try clear hcz10_5
        try clear hcz10_6
        try clear hcz10_7
        try clear hcz10_8
        try clear hcz10_9
        try clear hcz17_0
        try clear hcz17_1
        try clear hcz17_10
        try clear hcz17_11
        try clear hcz17_2
        try clear hcz17_3
        try clear hcz17_4
        try clear hcz17_5
        try clear hcz17_6
        try clear hcz17_7
        try clear hcz17_8
        try clear hcz17_9
        try clear hcz19_0
        try clear hcz19_1
        try clear hcz19_10
        try clear hcz19_11
        try clear hcz19_2
        try clear hcz19_3
        try clear hcz19_4
        try clear hcz19_5
        try clear hcz19_6
        try clear hcz19_7
        try clear hcz19_8
        try clear hcz19_9
        try clear hcz21_0
        try clear hcz21_1
        try clear hcz21_10
        try clear hcz21_11
        try clear hcz21_2
        try clear hcz21_3
        try clear hcz21_4
        try clear hcz21_5
        try clear hcz21_6
        try clear hcz21_7
        try clear hcz21_8
        try clear hcz21_9
        try clear hcz23_0
        try clear hcz23_1
        try clear hcz23_10
        try clear hcz23_11
        try clear hcz23_2
        try clear hcz23_3
        try clear hcz23_4
        try clear hcz23_5
        try clear hcz23_6
        try clear hcz23_7
        try clear hcz23_8
        try clear hcz23_9
        try clear hcz7_0
        try clear hcz7_1
        try clear hcz7_10
        try clear hcz7_11
        try clear hcz7_2
        try clear hcz7_3
        try clear hcz7_4
        try clear hcz7_5
        try clear hcz7_6
        try clear hcz7_7
        try clear hcz7_8
        try clear hcz7_9
        try clear hfz10_0
        try clear hfz10_1
        try clear hfz10_10
        try clear hfz10_11
        try clear hfz10_2
        try clear hfz10_3
        try clear hfz10_4
        try clear hfz10_5
        try clear hfz10_6
        try clear hfz10_7
        try clear hfz10_8
        try clear hfz10_9
        try clear hfz17_0
        try clear hfz17_1
        try clear hfz17_10
        try clear hfz17_11
        try clear hfz17_2
        try clear hfz17_3
        try clear hfz17_4
        try clear hfz17_5
        try clear hfz17_6
        try clear hfz17_7
        try clear hfz17_8
        try clear hfz17_9
        try clear hfz19_0
        try clear hfz19_1
        try clear hfz19_10
        try clear hfz19_11
        try clear hfz19_2
        try clear hfz19_3
        try clear hfz19_4
        try clear hfz19_5
        try clear hfz19_6
        try clear hfz19_7
        try clear hfz19_8
        try clear hfz19_9
        try clear hfz21_0
        try clear hfz21_1
        try clear hfz21_10
        try clear hfz21_11
        try clear hfz21_2
        try clear hfz21_3
        try clear hfz21_4
        try clear hfz21_5
        try clear hfz21_6
        try clear hfz21_7
        try clear hfz21_8
        try clear hfz21_9
        try clear hfz23_0
        try clear hfz23_1
        try clear hfz23_10
        try clear hfz23_11
        try clear hfz23_2
        try clear hfz23_3
        try clear hfz23_4
        try clear hfz23_5
        try clear hfz23_6
        try clear hfz23_7
        try clear hfz23_8
        try clear hfz23_9
        try clear hfz7_0
        try clear hfz7_1
        try clear hfz7_10
        try clear hfz7_11
        try clear hfz7_2
        try clear hfz7_3
        try clear hfz7_4
        try clear hfz7_5
        try clear hfz7_6
        try clear hfz7_7
        try clear hfz7_8
        try clear hfz7_9
        try clear hx446_0
        try clear hx446_1
        try clear hx446_10
        try clear hx446_11
        try clear hx446_2
        try clear hx446_3
        try clear hx446_4
        try clear hx446_5
        try clear hx446_6
        try clear hx446_7
        try clear hx446_8
        try clear hx446_9
        try clear p2
        try clear p4
        try clear p446
        try clear q4
        try clear q446
        obtain ⟨kq, x33_24, rfl, HA, HJ24, BK447, HB⟩ := hcut
        cases kq with
        | zero => exact absurd HA.out (by simp [rescindref40_node.j1])
        | succ kj24 =>
         have H := HA.out
         clear HA
         simp only [rescindref40_node.j1] at H
         by_cases c27 : x33_24 = true
         ·subst c27
          have H1 : (if ((rd_T40 l0 a1).f7.f0) = 2 then ((rescindref40_node.f kj24 l0 ((rd_T40 l0 a1).f1)).bind fun t450 => (some (wrap64 ((wrap64 (t450 + ((rd_T40 l0 a1).f7.f1))) - 1)))) else ((rescindref40_node.f kj24 l0 ((rd_T40 l0 a1).f1)).bind fun t451 => (some t451))) = some r := by rw [if_pos rfl] at H; exact H
          clear H
          have H := H1
          clear H1
          by_cases c28 : ((rd_T40 l0 a1).f7.f0) = 2
          ·rw [if_pos c28] at H
           have c28b0 : (((rd_T40 l0 a1).f7.f0) == 2) = true := beq_iff_eq.mpr c28
           have c28b1 : (((rd_T40 l0 a1).f7.f0) != 2) = false := bne_eq_false_iff_eq.mpr c28
           clear c28
           replace H := Option.bind_eq_some_iff.mp H
           obtain ⟨t450, A290, H⟩ := H
           replace H : (some (wrap64 ((wrap64 (t450 + ((rd_T40 l0 a1).f7.f1))) - 1))) = some r := H
           have A29 := Aside0.mk A290
           clear A290
           obtain rfl := Option.some.inj H
           have hcz30_0 : wc.cell? ⟨gb447, 0, none⟩ = some (.int .i64 ((rd_T40 l0 a1).f0)) := (blk_cell BK447.out 0).trans rfl
           have hcz30_1 : wc.cell? ⟨gb447, 1, none⟩ = some (.int .i64 ((rd_T40 l0 a1).f1)) := (blk_cell BK447.out 1).trans rfl
           have hcz30_2 : wc.cell? ⟨gb447, 2, none⟩ = some (.int .i64 ((rd_T40 l0 a1).f2)) := (blk_cell BK447.out 2).trans rfl
           have hcz30_3 : wc.cell? ⟨gb447, 3, none⟩ = some (.slice A446_3 ((rd_T40 l0 a1).f3).length c446_3) := (blk_cell BK447.out 3).trans rfl
           have hcz30_4 : wc.cell? ⟨gb447, 4, none⟩ = some (.slice A446_4 ((rd_T40 l0 a1).f4).length c446_4) := (blk_cell BK447.out 4).trans rfl
           have hcz30_5 : wc.cell? ⟨gb447, 5, none⟩ = some (.slice A446_5 ((rd_T40 l0 a1).f5).length c446_5) := (blk_cell BK447.out 5).trans rfl
           have hcz30_6 : wc.cell? ⟨gb447, 6, none⟩ = some (.slice A446_6 ((rd_T40 l0 a1).f6).length c446_6) := (blk_cell BK447.out 6).trans rfl
           have hcz30_7 : wc.cell? ⟨gb447, 7, none⟩ = some (.int .i64 ((rd_T40 l0 a1).f7.f0)) := (blk_cell BK447.out 7).trans rfl
           have hcz30_8 : wc.cell? ⟨gb447, 8, none⟩ = some (.int .i64 ((rd_T40 l0 a1).f7.f1)) := (blk_cell BK447.out 8).trans rfl
           have hcz30_9 : wc.cell? ⟨gb447, 9, none⟩ = some (.int .i64 ((rd_T40 l0 a1).f7.f2)) := (blk_cell BK447.out 9).trans rfl
           have hcz30_10 : wc.cell? ⟨gb447, 10, none⟩ = some (.int .i64 ((rd_T40 l0 a1).f8)) := (blk_cell BK447.out 10).trans rfl
           have hcz30_11 : wc.cell? ⟨gb447, 11, none⟩ = some (.int .i64 ((rd_T40 l0 a1).f9)) := (blk_cell BK447.out 11).trans rfl
           have hfz30_0 := blk_frozen BK447.out 0
           have hfz30_1 := blk_frozen BK447.out 1
           have hfz30_2 := blk_frozen BK447.out 2
           have hfz30_3 := blk_frozen BK447.out 3
           have hfz30_4 := blk_frozen BK447.out 4
           have hfz30_5 := blk_frozen BK447.out 5
           have hfz30_6 := blk_frozen BK447.out 6
           have hfz30_7 := blk_frozen BK447.out 7
           have hfz30_8 := blk_frozen BK447.out 8
           have hfz30_9 := blk_frozen BK447.out 9
           have hfz30_10 := blk_frozen BK447.out 10
           have hfz30_11 := blk_frozen BK447.out 11
           try go_wp2
           have n0_ := Aside0.mk (blk_drew BK447.out)
           have n1_ := Aside0.mk (below_drew1 HB.out)
           clear BK447
           clear HB
           have BK447 := n0_
           have HB := n1_
           clear n0_ n1_
           refine start_ (n := 10) (S := fun w' => w'.cell? ⟨gb447, 0, none⟩ = some (.int .i64 ((rd_T40 l0 a1).f0)) ∧ w'.cell? ⟨gb447, 1, none⟩ = some (.int .i64 ((rd_T40 l0 a1).f1)) ∧ w'.cell? ⟨gb447, 2, none⟩ = some (.int .i64 ((rd_T40 l0 a1).f2)) ∧ w'.cell? ⟨gb447, 3, none⟩ = some (.slice A446_3 ((rd_T40 l0 a1).f3).length c446_3) ∧ w'.cell? ⟨gb447, 4, none⟩ = some (.slice A446_4 ((rd_T40 l0 a1).f4).length c446_4) ∧ w'.cell? ⟨gb447, 5, none⟩ = some (.slice A446_5 ((rd_T40 l0 a1).f5).length c446_5) ∧ w'.cell? ⟨gb447, 6, none⟩ = some (.slice A446_6 ((rd_T40 l0 a1).f6).length c446_6) ∧ w'.cell? ⟨gb447, 7, none⟩ = some (.int .i64 ((rd_T40 l0 a1).f7.f0)) ∧ w'.cell? ⟨gb447, 8, none⟩ = some (.int .i64 ((rd_T40 l0 a1).f7.f1)) ∧ w'.cell? ⟨gb447, 9, none⟩ = some (.int .i64 ((rd_T40 l0 a1).f7.f2)) ∧ w'.cell? ⟨gb447, 10, none⟩ = some (.int .i64 ((rd_T40 l0 a1).f8)) ∧ w'.cell? ⟨gb447, 11, none⟩ = some (.int .i64 ((rd_T40 l0 a1).f9))) (ds := []) #[false, false, false, false, false, false, false, false, false, false] (by kernel_rfl) rfl rfl ⟨(blk_cell BK447.out 0).trans rfl, (blk_cell BK447.out 1).trans rfl, (blk_cell BK447.out 2).trans rfl, (blk_cell BK447.out 3).trans rfl, (blk_cell BK447.out 4).trans rfl, (blk_cell BK447.out 5).trans rfl, (blk_cell BK447.out 6).trans rfl, (blk_cell BK447.out 7).trans rfl, (blk_cell BK447.out 8).trans rfl, (blk_cell BK447.out 9).trans rfl, (blk_cell BK447.out 10).trans rfl, (blk_cell BK447.out 11).trans rfl⟩ (fun hHeld => ?_); refine with_tabW rescindref40_node.tab16 rescindref40_node.bits16 (fun HT_ HW_ => ?_)
           generalize wc.drew = w31 at BK447 HB hHeld ⊢
           refine pure_ (i := 0) (N := some 40) (v := ?_) (a' := ?_) #[true, false, false, false, false, false, false, false, false, false] rfl rfl (any_of HT_.out (by kernel_rfl)) (fun _ _ _ h => h) (Or.inl ⟨by rfl, ?_⟩) ?_ ?_
           rotate_left
           ·intro w'
            go_simp
            with_reducible rfl
           rotate_left
           ·simp only [Act.put, List.setIfInBounds_toArray, List.set_cons_zero, List.set_cons_succ, i64_w, i32_w]
            rfl
           refine pure_ (i := 1) (N := some 41) (v := ?_) (a' := ?_) #[true, true, false, false, false, false, false, false, false, false] rfl rfl (any_of HT_.out (by kernel_rfl)) (fun _ _ _ h => h) (Or.inl ⟨by rfl, ?_⟩) ?_ ?_
           rotate_left
           ·intro w'
            go_simp
            with_reducible rfl
           rotate_left
           ·simp only [Act.put, List.setIfInBounds_toArray, List.set_cons_zero, List.set_cons_succ, i64_w, i32_w]
            rfl
           refine pure_ (i := 4) (N := some 44) (v := ?_) (a' := ?_) #[true, true, false, false, true, false, false, false, false, false] rfl rfl (any_of HT_.out (by kernel_rfl)) (fun _ _ _ h => h) (Or.inl ⟨by rfl, ?_⟩) ?_ ?_
           rotate_left
           ·intro w'
            go_simp
            with_reducible rfl
           rotate_left
           ·simp only [Act.put, List.setIfInBounds_toArray, List.set_cons_zero, List.set_cons_succ, i64_w, i32_w]
            rfl
           refine pure_ (i := 5) (N := some 45) (v := ?_) (a' := ?_) #[true, true, false, false, true, true, false, false, false, false] rfl rfl (any_of HT_.out (by kernel_rfl)) (fun _ _ _ h => h) (Or.inl ⟨by rfl, ?_⟩) ?_ ?_
           rotate_left
           ·intro w'
            go_simp
            with_reducible rfl
           rotate_left
           ·simp only [Act.put, List.setIfInBounds_toArray, List.set_cons_zero, List.set_cons_succ, i64_w, i32_w]
            rfl
           refine take_ (i := 2) (N := some 42) (v := ?_) (a' := ?_) #[true, true, true, false, true, true, false, false, false, false] rfl rfl (take_ofW HT_.out HW_.out (by kernel_rfl)) (fun _ _ _ h => h) (Or.inl ⟨by rfl, ?_⟩) hHeld ?_ ?_
           rotate_left
           ·rintro w' ⟨s0, s1, s2, s3, s4, s5, s6, s7, s8, s9, s10, s11⟩
            go_simp
            with_reducible rfl
           rotate_left
           ·simp only [Act.put, List.setIfInBounds_toArray, List.set_cons_zero, List.set_cons_succ, i64_w, i32_w]
            rfl
           refine take_ (i := 6) (N := some 46) (v := ?_) (a' := ?_) #[true, true, true, false, true, true, true, false, false, false] rfl rfl (take_ofW HT_.out HW_.out (by kernel_rfl)) (fun _ _ _ h => h) (Or.inl ⟨by rfl, ?_⟩) hHeld ?_ ?_
           rotate_left
           ·rintro w' ⟨s0, s1, s2, s3, s4, s5, s6, s7, s8, s9, s10, s11⟩
            go_simp
            with_reducible rfl
           rotate_left
           ·simp only [Act.put, List.setIfInBounds_toArray, List.set_cons_zero, List.set_cons_succ, i64_w, i32_w]
            rfl
           refine one_ (i := 3) (N := some 43) #[true, true, true, true, true, true, true, false, false, false] rfl rfl (one_of HT_.out (by kernel_rfl)) (by decide) (fun K hK => ?_)
           refine goes_ Try.func15 (by kernel_rfl) rfl #[.slice (some ad446) l0.length c0, .int .i64 ((rd_T40 l0 a1).f1)] (by rfl) rfl rfl (by (try simp only [List.map_toArray, List.map_cons, List.map_nil]); first | done | rfl | (simp only [List.length_drop, List.length_take]; rfl)) ?_
           with_reducible refine (ih kj24 (by have := HJ7.out; have := HJ24.out; omega) _ _ l0 ((rd_T40 l0 a1).f1) t450 _ ?side1 ?side2 A29.out).mono ?_
           (case side1 => repeat (first | exact (Kd.C_below HR0.out HB.out) | (with_reducible refine Kd.C_alloc ?_ _) | (with_reducible refine Kd.C_drewN ?_ _) | (with_reducible refine Kd.C_drew ?_)))
           (case side2 => exact HC0.out)
           rintro e w32 ⟨rfl, hb⟩
           refine ⟨_, rfl, ?_⟩
           have n0_ := Aside0.mk (blk_below (g := gb447) (o := .cells #[.int .i64 ((rd_T40 l0 a1).f0), .int .i64 ((rd_T40 l0 a1).f1), .int .i64 ((rd_T40 l0 a1).f2), .slice A446_3 ((rd_T40 l0 a1).f3).length c446_3, .slice A446_4 ((rd_T40 l0 a1).f4).length c446_4, .slice A446_5 ((rd_T40 l0 a1).f5).length c446_5, .slice A446_6 ((rd_T40 l0 a1).f6).length c446_6, .int .i64 ((rd_T40 l0 a1).f7.f0), .int .i64 ((rd_T40 l0 a1).f7.f1), .int .i64 ((rd_T40 l0 a1).f7.f2), .int .i64 ((rd_T40 l0 a1).f8), .int .i64 ((rd_T40 l0 a1).f9)] 40 (0, 0)) (by (with_reducible repeat (first | refine blk_drewN ?_ _ | refine blk_drew ?_ | refine blk_alloc ?_ _)); exact BK447.out) hb)
           have n1_ := Aside0.mk (below_step (by repeat (first | (with_reducible first | exact HB.out | apply below_alloc | apply pw_below_drewN | apply below_drew1 | refine below_set ?_ GE447.out) | exact HB.out)) hb)
           clear BK447
           clear HB
           have BK447 := n0_
           have HB := n1_
           clear n0_ n1_
           (try clear hb)
           (try clear hb2)
           (try clear hk)
           (try clear hi)
           refine hK.out _ _ ⟨(blk_cell BK447.out 0).trans rfl, (blk_cell BK447.out 1).trans rfl, (blk_cell BK447.out 2).trans rfl, (blk_cell BK447.out 3).trans rfl, (blk_cell BK447.out 4).trans rfl, (blk_cell BK447.out 5).trans rfl, (blk_cell BK447.out 6).trans rfl, (blk_cell BK447.out 7).trans rfl, (blk_cell BK447.out 8).trans rfl, (blk_cell BK447.out 9).trans rfl, (blk_cell BK447.out 10).trans rfl, (blk_cell BK447.out 11).trans rfl⟩ (fun hHeld => ?_)
           clear hK K
           refine norm_ (a' := ?_) ?_ ?_
           rotate_left
           ·show Act.put _ (some 43) _ = _
            simp only [Act.put, List.setIfInBounds_toArray, List.set_cons_zero, List.set_cons_succ, i64_w, i32_w]
            rfl
           refine pure_ (i := 7) (N := some 47) (v := ?_) (a' := ?_) #[true, true, true, true, true, true, true, true, false, false] rfl rfl (any_of HT_.out (by kernel_rfl)) (fun _ _ _ h => h) (Or.inl ⟨by rfl, ?_⟩) ?_ ?_
           rotate_left
           ·intro w'
            go_simp
            with_reducible rfl
           rotate_left
           ·simp only [Act.put, List.setIfInBounds_toArray, List.set_cons_zero, List.set_cons_succ, i64_w, i32_w]
            rfl
           refine pure_ (i := 8) (N := some 48) (v := ?_) (a' := ?_) #[true, true, true, true, true, true, true, true, true, false] rfl rfl (any_of HT_.out (by kernel_rfl)) (fun _ _ _ h => h) (Or.inl ⟨by rfl, ?_⟩) ?_ ?_
           rotate_left
           ·intro w'
            go_simp
            with_reducible rfl
           rotate_left
           ·simp only [Act.put, List.setIfInBounds_toArray, List.set_cons_zero, List.set_cons_succ, i64_w, i32_w]
            rfl
           refine pure_ (i := 9) (N := some 4) (v := ?_) (a' := ?_) #[true, true, true, true, true, true, true, true, true, true] rfl rfl (any_of HT_.out (by kernel_rfl)) (fun _ _ _ h => h) (Or.inl ⟨by rfl, ?_⟩) ?_ ?_
           rotate_left
           ·intro w'
            go_simp
            with_reducible rfl
           rotate_left
           ·simp only [Act.put, List.setIfInBounds_toArray, List.set_cons_zero, List.set_cons_succ, i64_w, i32_w]
            rfl
           refine done_ (done_of HT_.out (by kernel_rfl)) ?_
           try go_wp2
           go_ret
           exact ⟨by first | rfl | (simp [errW_none, errW_some] <;> rfl) | (simp [*, errW_none, errW_some] <;> rfl), by repeat (first | (with_reducible first | exact HB.out | apply below_alloc | apply pw_below_drewN | apply below_drew1 | refine below_set ?_ GE447.out) | exact HB.out)⟩
          ·rw [if_neg c28] at H
           have c28b0 : (((rd_T40 l0 a1).f7.f0) == 2) = false := beq_eq_false_iff_ne.mpr c28
           have c28b1 : (((rd_T40 l0 a1).f7.f0) != 2) = true := bne_iff_ne.mpr c28
           replace H := Option.bind_eq_some_iff.mp H
           obtain ⟨t451, A330, H⟩ := H
           replace H : (some t451) = some r := H
           have A33 := Aside0.mk A330
           clear A330
           obtain rfl := Option.some.inj H
           have hcz34_0 : wc.cell? ⟨gb447, 0, none⟩ = some (.int .i64 ((rd_T40 l0 a1).f0)) := (blk_cell BK447.out 0).trans rfl
           have hcz34_1 : wc.cell? ⟨gb447, 1, none⟩ = some (.int .i64 ((rd_T40 l0 a1).f1)) := (blk_cell BK447.out 1).trans rfl
           have hcz34_2 : wc.cell? ⟨gb447, 2, none⟩ = some (.int .i64 ((rd_T40 l0 a1).f2)) := (blk_cell BK447.out 2).trans rfl
           have hcz34_3 : wc.cell? ⟨gb447, 3, none⟩ = some (.slice A446_3 ((rd_T40 l0 a1).f3).length c446_3) := (blk_cell BK447.out 3).trans rfl
           have hcz34_4 : wc.cell? ⟨gb447, 4, none⟩ = some (.slice A446_4 ((rd_T40 l0 a1).f4).length c446_4) := (blk_cell BK447.out 4).trans rfl
           have hcz34_5 : wc.cell? ⟨gb447, 5, none⟩ = some (.slice A446_5 ((rd_T40 l0 a1).f5).length c446_5) := (blk_cell BK447.out 5).trans rfl
           have hcz34_6 : wc.cell? ⟨gb447, 6, none⟩ = some (.slice A446_6 ((rd_T40 l0 a1).f6).length c446_6) := (blk_cell BK447.out 6).trans rfl
           have hcz34_7 : wc.cell? ⟨gb447, 7, none⟩ = some (.int .i64 ((rd_T40 l0 a1).f7.f0)) := (blk_cell BK447.out 7).trans rfl
           have hcz34_8 : wc.cell? ⟨gb447, 8, none⟩ = some (.int .i64 ((rd_T40 l0 a1).f7.f1)) := (blk_cell BK447.out 8).trans rfl
           have hcz34_9 : wc.cell? ⟨gb447, 9, none⟩ = some (.int .i64 ((rd_T40 l0 a1).f7.f2)) := (blk_cell BK447.out 9).trans rfl
           have hcz34_10 : wc.cell? ⟨gb447, 10, none⟩ = some (.int .i64 ((rd_T40 l0 a1).f8)) := (blk_cell BK447.out 10).trans rfl
           have hcz34_11 : wc.cell? ⟨gb447, 11, none⟩ = some (.int .i64 ((rd_T40 l0 a1).f9)) := (blk_cell BK447.out 11).trans rfl
           have hfz34_0 := blk_frozen BK447.out 0
           have hfz34_1 := blk_frozen BK447.out 1
           have hfz34_2 := blk_frozen BK447.out 2
           have hfz34_3 := blk_frozen BK447.out 3
           have hfz34_4 := blk_frozen BK447.out 4
           have hfz34_5 := blk_frozen BK447.out 5
           have hfz34_6 := blk_frozen BK447.out 6
           have hfz34_7 := blk_frozen BK447.out 7
           have hfz34_8 := blk_frozen BK447.out 8
           have hfz34_9 := blk_frozen BK447.out 9
           have hfz34_10 := blk_frozen BK447.out 10
           have hfz34_11 := blk_frozen BK447.out 11
           go_wp2_with (first | ((with_reducible refine gate_callee (f := 15) rfl ?_); refine goesL_ (some 52) rfl rfl Try.func15 (by kernel_rfl) rfl #[.slice (some ad446) l0.length c0, .int .i64 ((rd_T40 l0 a1).f1)] rfl (by (try simp only [List.map_toArray, List.map_cons, List.map_nil]); first | done | rfl | (simp only [List.length_drop, List.length_take]; rfl)) ?_; (with_reducible refine (ih kj24 (by have := HJ7.out; have := HJ24.out; omega) _ _ l0 ((rd_T40 l0 a1).f1) t451 _ ?side1 ?side2 A33.out).mono ?_); (case side1 => repeat (first | exact (Kd.C_below HR0.out HB.out) | (with_reducible refine Kd.C_alloc ?_ _) | (with_reducible refine Kd.C_drewN ?_ _) | (with_reducible refine Kd.C_drew ?_))); (case side2 => exact HC0.out); rintro e w35 ⟨rfl, hb⟩; refine ⟨_, rfl, ?_⟩; have n0_ := Aside0.mk (blk_below (g := gb447) (o := .cells #[.int .i64 ((rd_T40 l0 a1).f0), .int .i64 ((rd_T40 l0 a1).f1), .int .i64 ((rd_T40 l0 a1).f2), .slice A446_3 ((rd_T40 l0 a1).f3).length c446_3, .slice A446_4 ((rd_T40 l0 a1).f4).length c446_4, .slice A446_5 ((rd_T40 l0 a1).f5).length c446_5, .slice A446_6 ((rd_T40 l0 a1).f6).length c446_6, .int .i64 ((rd_T40 l0 a1).f7.f0), .int .i64 ((rd_T40 l0 a1).f7.f1), .int .i64 ((rd_T40 l0 a1).f7.f2), .int .i64 ((rd_T40 l0 a1).f8), .int .i64 ((rd_T40 l0 a1).f9)] 40 (0, 0)) (by (with_reducible repeat (first | refine blk_drewN ?_ _ | refine blk_drew ?_ | refine blk_alloc ?_ _)); exact BK447.out) hb); have n1_ := Aside0.mk (below_step (by repeat (first | (with_reducible first | exact HB.out | apply below_alloc | apply pw_below_drewN | apply below_drew1 | refine below_set ?_ GE447.out) | exact HB.out)) hb); clear BK447; clear HB; have BK447 := n0_; have HB := n1_; clear n0_ n1_; (try clear hb); (try clear hb2); (try clear hk); (try clear hi)))
           go_ret
           exact ⟨by first | rfl | (simp [errW_none, errW_some] <;> rfl) | (simp [*, errW_none, errW_some] <;> rfl), by repeat (first | (with_reducible first | exact HB.out | apply below_alloc | apply pw_below_drewN | apply below_drew1 | refine below_set ?_ GE447.out) | exact HB.out)⟩
         ·replace c27 := Bool.eq_false_iff.mpr c27
          subst c27
          have H1 : ((rescindref40_node.f kj24 l0 ((rd_T40 l0 a1).f1)).bind fun t452 => (some t452)) = some r := by rw [if_neg (show ¬ (false = true) by decide)] at H; exact H
          clear H
          have H := H1
          clear H1
          replace H := Option.bind_eq_some_iff.mp H
          obtain ⟨t452, A360, H⟩ := H
          replace H : (some t452) = some r := H
          have A36 := Aside0.mk A360
          clear A360
          obtain rfl := Option.some.inj H
          have hcz37_0 : wc.cell? ⟨gb447, 0, none⟩ = some (.int .i64 ((rd_T40 l0 a1).f0)) := (blk_cell BK447.out 0).trans rfl
          have hcz37_1 : wc.cell? ⟨gb447, 1, none⟩ = some (.int .i64 ((rd_T40 l0 a1).f1)) := (blk_cell BK447.out 1).trans rfl
          have hcz37_2 : wc.cell? ⟨gb447, 2, none⟩ = some (.int .i64 ((rd_T40 l0 a1).f2)) := (blk_cell BK447.out 2).trans rfl
          have hcz37_3 : wc.cell? ⟨gb447, 3, none⟩ = some (.slice A446_3 ((rd_T40 l0 a1).f3).length c446_3) := (blk_cell BK447.out 3).trans rfl
          have hcz37_4 : wc.cell? ⟨gb447, 4, none⟩ = some (.slice A446_4 ((rd_T40 l0 a1).f4).length c446_4) := (blk_cell BK447.out 4).trans rfl
          have hcz37_5 : wc.cell? ⟨gb447, 5, none⟩ = some (.slice A446_5 ((rd_T40 l0 a1).f5).length c446_5) := (blk_cell BK447.out 5).trans rfl
          have hcz37_6 : wc.cell? ⟨gb447, 6, none⟩ = some (.slice A446_6 ((rd_T40 l0 a1).f6).length c446_6) := (blk_cell BK447.out 6).trans rfl
          have hcz37_7 : wc.cell? ⟨gb447, 7, none⟩ = some (.int .i64 ((rd_T40 l0 a1).f7.f0)) := (blk_cell BK447.out 7).trans rfl
          have hcz37_8 : wc.cell? ⟨gb447, 8, none⟩ = some (.int .i64 ((rd_T40 l0 a1).f7.f1)) := (blk_cell BK447.out 8).trans rfl
          have hcz37_9 : wc.cell? ⟨gb447, 9, none⟩ = some (.int .i64 ((rd_T40 l0 a1).f7.f2)) := (blk_cell BK447.out 9).trans rfl
          have hcz37_10 : wc.cell? ⟨gb447, 10, none⟩ = some (.int .i64 ((rd_T40 l0 a1).f8)) := (blk_cell BK447.out 10).trans rfl
          have hcz37_11 : wc.cell? ⟨gb447, 11, none⟩ = some (.int .i64 ((rd_T40 l0 a1).f9)) := (blk_cell BK447.out 11).trans rfl
          have hfz37_0 := blk_frozen BK447.out 0
          have hfz37_1 := blk_frozen BK447.out 1
          have hfz37_2 := blk_frozen BK447.out 2
          have hfz37_3 := blk_frozen BK447.out 3
          have hfz37_4 := blk_frozen BK447.out 4
          have hfz37_5 := blk_frozen BK447.out 5
          have hfz37_6 := blk_frozen BK447.out 6
          have hfz37_7 := blk_frozen BK447.out 7
          have hfz37_8 := blk_frozen BK447.out 8
          have hfz37_9 := blk_frozen BK447.out 9
          have hfz37_10 := blk_frozen BK447.out 10
          have hfz37_11 := blk_frozen BK447.out 11
          go_wp2_with (first | ((with_reducible refine gate_callee (f := 15) rfl ?_); refine goesL_ (some 52) rfl rfl Try.func15 (by kernel_rfl) rfl #[.slice (some ad446) l0.length c0, .int .i64 ((rd_T40 l0 a1).f1)] rfl (by (try simp only [List.map_toArray, List.map_cons, List.map_nil]); first | done | rfl | (simp only [List.length_drop, List.length_take]; rfl)) ?_; (with_reducible refine (ih kj24 (by have := HJ7.out; have := HJ24.out; omega) _ _ l0 ((rd_T40 l0 a1).f1) t452 _ ?side1 ?side2 A36.out).mono ?_); (case side1 => repeat (first | exact (Kd.C_below HR0.out HB.out) | (with_reducible refine Kd.C_alloc ?_ _) | (with_reducible refine Kd.C_drewN ?_ _) | (with_reducible refine Kd.C_drew ?_))); (case side2 => exact HC0.out); rintro e w38 ⟨rfl, hb⟩; refine ⟨_, rfl, ?_⟩; have n0_ := Aside0.mk (blk_below (g := gb447) (o := .cells #[.int .i64 ((rd_T40 l0 a1).f0), .int .i64 ((rd_T40 l0 a1).f1), .int .i64 ((rd_T40 l0 a1).f2), .slice A446_3 ((rd_T40 l0 a1).f3).length c446_3, .slice A446_4 ((rd_T40 l0 a1).f4).length c446_4, .slice A446_5 ((rd_T40 l0 a1).f5).length c446_5, .slice A446_6 ((rd_T40 l0 a1).f6).length c446_6, .int .i64 ((rd_T40 l0 a1).f7.f0), .int .i64 ((rd_T40 l0 a1).f7.f1), .int .i64 ((rd_T40 l0 a1).f7.f2), .int .i64 ((rd_T40 l0 a1).f8), .int .i64 ((rd_T40 l0 a1).f9)] 40 (0, 0)) (by (with_reducible repeat (first | refine blk_drewN ?_ _ | refine blk_drew ?_ | refine blk_alloc ?_ _)); exact BK447.out) hb); have n1_ := Aside0.mk (below_step (by repeat (first | (with_reducible first | exact HB.out | apply below_alloc | apply pw_below_drewN | apply below_drew1 | refine below_set ?_ GE447.out) | exact HB.out)) hb); clear BK447; clear HB; have BK447 := n0_; have HB := n1_; clear n0_ n1_; (try clear hb); (try clear hb2); (try clear hk); (try clear hi)))
          go_ret
          exact ⟨by first | rfl | (simp [errW_none, errW_some] <;> rfl) | (simp [*, errW_none, errW_some] <;> rfl), by repeat (first | (with_reducible first | exact HB.out | apply below_alloc | apply pw_below_drewN | apply below_drew1 | refine below_set ?_ GE447.out) | exact HB.out)⟩
  ·rw [if_neg c4] at H
   exact absurd H (by simp)
 ·rw [if_neg c3] at H
  exact absurd H (by simp)
end Go.Proofs.Ytpidiibhgfjemaa.PLg
end
section
namespace Go.Proofs.Ytpidiibhgfjemaa.PLg
open Go.RowKit Go.Proofs.YtpidiibhgfjemaaW.PrintWords Go.Proofs.YtpidiibhgfjemaaW.PrintLast Go.Proofs.YtpidiibhgfjemaaW.PrintMore
attribute [local go_sem] max2_int min2_int max_two min_two max_three min_three max_four min_four
set_option linter.unusedVariables false
set_option linter.unusedSimpArgs false
end Go.Proofs.Ytpidiibhgfjemaa.PLg
end
section
namespace Go.Proofs.Ytpidiibhgfjemaa.PLh
open Go.Proofs.Ytpidiibhgfjemaa.PLg
open Go.RowKit Go.Proofs.YtpidiibhgfjemaaW.PrintWords Go.Proofs.YtpidiibhgfjemaaW.PrintLast Go.Proofs.YtpidiibhgfjemaaW.PrintMore
def spanB (n : Int) : Bool := decide (n ≥ 1) && decide (n ≤ 1099511627776)
theorem check1_calls (n : Int) (w : World) : Calls Try.prog 53 #[.int .i64 n] w fun e w' => e = .returned (.bool (spanB n)) ∧ Below w.heap.size w w' := by
 by_cases h : n ≥ 1
 ·have e : spanB n = decide (n ≤ 1099511627776) := by unfold spanB; rw [decide_eq_true h]; rfl
  rw [e]
  have b0 : decide (n ≥ 1) = true := decide_eq_true h
  clear h e
  go_enter Try.func53, Try.ntmps53
  go_wp2
  go_ret
  exact ⟨rfl, Below.refl _ _⟩
 ·have e : spanB n = false := by unfold spanB; rw [decide_eq_false h]; rfl
  rw [e]
  have b0 : decide (n ≥ 1) = false := decide_eq_false h
  clear h e
  go_enter Try.func53, Try.ntmps53
  go_wp2
  go_ret
  exact ⟨rfl, Below.refl _ _⟩
def chkS (k s h : Int) : Bool := if k = 1 then s == 0 && h == 0 else if k = 2 then spanB s && spanB h else if k = 3 then decide (s ≥ 1) && decide (s ≤ 64) && h == 0 else false
def window_Check.f (a0_0 a0_1 a0_2 : Int) : Option Int := some (if chkS a0_0 a0_1 a0_2 = true then 0 else 2)
set_option maxHeartbeats 2000000 in
set_option maxRecDepth 100000 in
theorem window_Check_any (k s h : Int) (b : Bool) (hb : chkS k s h = b) (w : World) :
  Calls Try.prog 34 #[.agg #[.int .i64 k, .int .i64 s, .int .i64 h]] w fun e w' => e = .returned (.int .i64 (if b = true then 0 else 2)) ∧ Below w.heap.size w w' := by
 have HB := Lib.hid (Below.alloc (Below.refl w.heap.size w) (Nat.le_refl _) (.cells #[.int .i64 k, .int .i64 s, .int .i64 h] 34 (0, 0)))
 have K2 := Lib.hid ((blk_cell (blk_new w (.cells #[.int .i64 k, .int .i64 s, .int .i64 h] 34 (0, 0))) 2).trans rfl : (w.alloc (.cells #[.int .i64 k, .int .i64 s, .int .i64 h] 34 (0, 0))).cell? ⟨w.heap.size, 2, none⟩ = some (.int .i64 h))
 have hu := Try.underlying34
 have C := Lib.hid check1_calls
 unfold chkS at hb
 by_cases k1 : k = 1
 ·subst k1
  rw [if_pos rfl] at hb
  by_cases s0 : s = 0
  ·subst s0
   by_cases h0 : h = 0
   ·subst h0
    obtain rfl : true = b := hb
    go_enter Try.func34, Try.ntmps34
    go_wp2
    go_ret
    exact ⟨rfl, HB⟩
   ·have b0 : (h == 0) = false := beq_eq_false_iff_ne.mpr h0
    obtain rfl : false = b := by rw [← hb, b0]; rfl
    clear hb h0
    go_enter Try.func34, Try.ntmps34
    go_wp2
    go_ret
    exact ⟨rfl, HB⟩
  ·have b0 : (s == 0) = false := beq_eq_false_iff_ne.mpr s0
   obtain rfl : false = b := by rw [← hb, b0]; rfl
   clear hb s0
   go_enter Try.func34, Try.ntmps34
   go_wp2
   go_ret
   exact ⟨rfl, HB⟩
 rw [if_neg k1] at hb
 have b1 : (k == 1) = false := beq_eq_false_iff_ne.mpr k1
 by_cases k2 : k = 2
 ·subst k2
  rw [if_pos rfl] at hb
  have C1 := Lib.hid fun w => C.out s w
  have C2 := Lib.hid fun w => C.out h w
  clear C b1 k1
  cases hs : spanB s
  ·rw [hs] at C1 hb
   obtain rfl : false = b := hb
   clear hs C2
   go_enter Try.func34, Try.ntmps34
   go_wp2_with (((with_reducible refine (C1.out _).mono ?_); rintro e w' ⟨rfl, hb1⟩))
   go_ret
   exact ⟨rfl, HB.out.trans (hb1.mono (by simp))⟩
  ·rw [hs] at C1 hb
   obtain rfl : spanB h = b := hb
   clear hs
   generalize spanB h = b at *
   go_enter Try.func34, Try.ntmps34
   cases b
   ·go_wp2_with (first | (((with_reducible refine (C1.out _).mono ?_); clear C1; rintro e w1 ⟨rfl, hb1⟩; have H1 := Lib.hid hb1; have z2 := (hb1.cell (p := ⟨w.heap.size, 2, none⟩) (by simp)).trans K2.out; clear hb1)) | (((with_reducible refine (C2.out _).mono ?_); rintro e w2 ⟨rfl, hb2⟩; have H2 := Lib.hid hb2; clear hb2)))
    go_ret
    exact ⟨rfl, (HB.out.trans (H1.out.mono (by simp))).trans (H2.out.mono (by have := H1.out.size; simp at this; omega))⟩
   ·go_wp2_with (first | (((with_reducible refine (C1.out _).mono ?_); clear C1; rintro e w1 ⟨rfl, hb1⟩; have H1 := Lib.hid hb1; have z2 := (hb1.cell (p := ⟨w.heap.size, 2, none⟩) (by simp)).trans K2.out; clear hb1)) | (((with_reducible refine (C2.out _).mono ?_); rintro e w2 ⟨rfl, hb2⟩; have H2 := Lib.hid hb2; clear hb2)))
    go_ret
    exact ⟨rfl, (HB.out.trans (H1.out.mono (by simp))).trans (H2.out.mono (by have := H1.out.size; simp at this; omega))⟩
 rw [if_neg k2] at hb
 have b2 : (k == 2) = false := beq_eq_false_iff_ne.mpr k2
 by_cases k3 : k = 3
 ·subst k3
  rw [if_pos rfl] at hb
  by_cases s1 : s ≥ 1
  ·have c1 : decide (s ≥ 1) = true := decide_eq_true s1
   by_cases s2 : s ≤ 64
   ·have c2 : decide (s ≤ 64) = true := decide_eq_true s2
    by_cases h0 : h = 0
    ·subst h0
     obtain rfl : true = b := by rw [← hb, c1, c2]; rfl
     clear hb s1 s2
     go_enter Try.func34, Try.ntmps34
     go_wp2
     go_ret
     exact ⟨rfl, HB⟩
    ·have b0 : (h == 0) = false := beq_eq_false_iff_ne.mpr h0
     obtain rfl : false = b := by rw [← hb, c1, c2, b0]; rfl
     clear hb s1 s2 h0
     go_enter Try.func34, Try.ntmps34
     go_wp2
     go_ret
     exact ⟨rfl, HB⟩
   ·have c2 : decide (s ≤ 64) = false := decide_eq_false s2
    obtain rfl : false = b := by rw [← hb, c1, c2]; rfl
    clear hb s1 s2
    go_enter Try.func34, Try.ntmps34
    go_wp2
    go_ret
    exact ⟨rfl, HB⟩
  ·have c1 : decide (s ≥ 1) = false := decide_eq_false s1
   obtain rfl : false = b := by rw [← hb, c1]; rfl
   clear hb s1
   go_enter Try.func34, Try.ntmps34
   go_wp2
   go_ret
   exact ⟨rfl, HB⟩
 rw [if_neg k3] at hb
 have b3 : (k == 3) = false := beq_eq_false_iff_ne.mpr k3
 obtain rfl : false = b := hb
 clear k1 k2 k3
 go_enter Try.func34, Try.ntmps34
 go_wp2
 go_ret
 exact ⟨rfl, HB⟩
theorem window_Check.calls (a0_0 a0_1 a0_2 : Int) (r : Int) (w : World) (h : window_Check.f a0_0 a0_1 a0_2 = some r) :
  Calls Try.prog 34 #[.agg #[.int .i64 a0_0, .int .i64 a0_1, .int .i64 a0_2]] w fun e w' => e = .returned (.int .i64 r) ∧ Below w.heap.size w w' := by
 obtain rfl := Option.some.inj h
 exact window_Check_any a0_0 a0_1 a0_2 _ rfl w
end Go.Proofs.Ytpidiibhgfjemaa.PLh
end
section
namespace Go.Proofs.Ytpidiibhgfjemaa.PLh
open Go.Proofs.Ytpidiibhgfjemaa.PLg
open Go.RowKit Go.Proofs.YtpidiibhgfjemaaW.PrintWords Go.Proofs.YtpidiibhgfjemaaW.PrintLast Go.Proofs.YtpidiibhgfjemaaW.PrintMore
theorem ix_mem_take {α : Type} (l : List α) (k : Nat) (h : k < l.length) (x : α) : x ∈ l.take (k + 1) ↔ x ∈ l.take k ∨ x = l[k] := by
 rw [List.take_add_one, List.getElem?_eq_getElem h, List.mem_append]
 simp only [Option.toList_some, List.mem_singleton]
theorem ix_at_int {w : World} {A : Option Addr} {xs : List Int} (h : Kd.C (Kd.int .i64) w A xs.length xs) (k : Nat) (hk : k < xs.length) : ∃ ad, A = some ad ∧ w.cell? (ad.add k) = some (.int .i64 xs[k]) := by
 obtain ⟨_, _, h2⟩ := h
 obtain ⟨ad, e, h3⟩ := h2 (by omega)
 obtain ⟨c, hl, hk', hc⟩ := h3 k xs[k] (List.getElem?_eq_getElem hk)
 refine ⟨ad, e, ?_⟩
 have h4 : c = [.int .i64 xs[k]] := hk'
 have := hc 0 (.int .i64 xs[k]) (by rw [h4]; rfl)
 rwa [show k * (Kd.int .i64).sz + 0 = k from by show k * 1 + 0 = k; omega] at this
theorem ix_at_str {w : World} {A : Option Addr} {xs : List ByteArray} (h : Kd.C Kd.string w A xs.length xs) (k : Nat) (hk : k < xs.length) : ∃ ad, A = some ad ∧ w.cell? (ad.add k) = some (.string xs[k]) := by
 obtain ⟨_, _, h2⟩ := h
 obtain ⟨ad, e, h3⟩ := h2 (by omega)
 obtain ⟨c, hl, hk', hc⟩ := h3 k xs[k] (List.getElem?_eq_getElem hk)
 refine ⟨ad, e, ?_⟩
 have h4 : c = [.string xs[k]] := hk'
 have := hc 0 (.string xs[k]) (by rw [h4]; rfl)
 rwa [show k * Kd.string.sz + 0 = k from by show k * 1 + 0 = k; omega] at this
set_option maxHeartbeats 800000 in
set_option maxRecDepth 100000 in
theorem ix_int (p : Int → Bool) (fn : Nat) (A0 : Option Addr) (c0 : Nat) (l : List Int) (w : World)
  (hp : ∀ (x : Int) (w1 : World), x ∈ l → Below w.heap.size w w1 → Calls Try.prog fn #[.int .i64 x] w1 fun e w' => e = .returned (.bool (p x)) ∧ Below w1.heap.size w1 w')
  (hfn : ∀ args w, (callFunc fn args).run Try.prog w = .ok (.enter fn args) w) (hr0 : Kd.C (Kd.int .i64) w A0 l.length l) (hl : l.length ≤ 1000) :
  Calls Try.prog 44 #[.slice A0 l.length c0, .func (Fn.func fn) #[] #[]] w fun e w' => (∃ r : Int, e = .returned (.int .i64 r) ∧ decide (0 ≤ r) = l.any p) ∧ Below w.heap.size w w' := by
 have HR := Aside0.mk hr0
 have HP := Lib.hid hp
 clear hr0 hp
 go_enter Try.func44, Try.ntmps44
 go_wp2
 go_loopw [8] (fun v8 wr => ∃ k : Nat, k ≤ l.length ∧ v8 = .int .i64 (k : Int) ∧ Aside0 (∀ x ∈ l.take k, p x = false) ∧ Aside0 (Below w.heap.size w wr)) (fun v8 wr => l.length - (intOf v8).toNat)
 case atStart => exact ⟨0, by omega, rfl, ⟨by simp⟩, ⟨Below.refl _ _⟩⟩
 case round =>
  obtain ⟨k, hk, rfl, HN, HB⟩ := hrel
  by_cases c : k < l.length
  ·obtain ⟨X, hX⟩ : ∃ X, l[k] = X := ⟨_, rfl⟩
   obtain ⟨ad, e1, hx0⟩ := ix_at_int (Kd.C_below HR.out HB.out) k c
   rw [hX] at hx0
   cases e1
   have P := Lib.hid (fun w1 hb => HP.out X w1 (by rw [← hX]; exact List.getElem_mem c) hb)
   have HX := Lib.hid hX
   clear hX
   cases hpx : p X
   ·have P2 := Lib.hid (fun w1 hb => by have := P.out w1 hb; rw [hpx] at this; exact this)
    have HPX := Lib.hid hpx
    clear P hpx
    go_wp2_with ((with_reducible refine (P2.out _ HB.out).mono ?_); rintro e w' ⟨rfl, hb⟩)
    go_roundw
    case rel =>
     refine ⟨k + 1, by omega, by go_num, ⟨fun x hx => ?_⟩, ⟨HB.out.trans (hb.mono HB.out.size)⟩⟩
     have hx' := (ix_mem_take l k c x).1 hx
     cases hx' with
     | inl h => exact HN.out x h
     | inr h => rw [h, HX]; exact HPX
    case measure => simp [intOf]; omega
   ·have P2 := Lib.hid (fun w1 hb => by have := P.out w1 hb; rw [hpx] at this; exact this)
    have hany : l.any p = true := by
     rw [List.any_eq_true]
     exact ⟨X, by rw [← HX.out]; exact List.getElem_mem c, hpx⟩
    have HANY := Lib.hid hany
    clear P hpx hany
    go_wp2_with ((with_reducible refine (P2.out _ HB.out).mono ?_); rintro e w' ⟨rfl, hb⟩)
    go_ret
    exact ⟨⟨k, rfl, by rw [HANY.out]; simp⟩, HB.out.trans (hb.mono HB.out.size)⟩
  ·obtain rfl : k = l.length := by omega
   have hany : l.any p = false := by
    rw [List.any_eq_false]
    intro x hx
    have := HN.out x (by rw [List.take_length]; exact hx)
    simp [this]
   have HANY := Lib.hid hany
   clear hany
   go_wp2
   go_ret
   exact ⟨⟨-1, rfl, by rw [HANY.out]; rfl⟩, HB.out⟩
set_option maxHeartbeats 800000 in
set_option maxRecDepth 100000 in
theorem ix_intc (p : Int → Bool) (fn : Nat) (cp : Value) (A0 : Option Addr) (c0 : Nat) (l : List Int) (w : World)
  (hp : ∀ (x : Int) (w1 : World), x ∈ l → Below w.heap.size w w1 → Calls Try.prog fn #[.int .i64 x, cp] w1 fun e w' => e = .returned (.bool (p x)) ∧ Below w1.heap.size w1 w')
  (hfn : ∀ args w, (callFunc fn args).run Try.prog w = .ok (.enter fn args) w) (hr0 : Kd.C (Kd.int .i64) w A0 l.length l) (hl : l.length ≤ 1000) :
  Calls Try.prog 44 #[.slice A0 l.length c0, .func (Fn.func fn) #[] #[cp]] w fun e w' => (∃ r : Int, e = .returned (.int .i64 r) ∧ decide (0 ≤ r) = l.any p) ∧ Below w.heap.size w w' := by
 have HR := Aside0.mk hr0
 have HP := Lib.hid hp
 clear hr0 hp
 go_enter Try.func44, Try.ntmps44
 go_wp2
 go_loopw [8] (fun v8 wr => ∃ k : Nat, k ≤ l.length ∧ v8 = .int .i64 (k : Int) ∧ Aside0 (∀ x ∈ l.take k, p x = false) ∧ Aside0 (Below w.heap.size w wr)) (fun v8 wr => l.length - (intOf v8).toNat)
 case atStart => exact ⟨0, by omega, rfl, ⟨by simp⟩, ⟨Below.refl _ _⟩⟩
 case round =>
  obtain ⟨k, hk, rfl, HN, HB⟩ := hrel
  by_cases c : k < l.length
  ·obtain ⟨X, hX⟩ : ∃ X, l[k] = X := ⟨_, rfl⟩
   obtain ⟨ad, e1, hx0⟩ := ix_at_int (Kd.C_below HR.out HB.out) k c
   rw [hX] at hx0
   cases e1
   have P := Lib.hid (fun w1 hb => HP.out X w1 (by rw [← hX]; exact List.getElem_mem c) hb)
   have HX := Lib.hid hX
   clear hX
   cases hpx : p X
   ·have P2 := Lib.hid (fun w1 hb => by have := P.out w1 hb; rw [hpx] at this; exact this)
    have HPX := Lib.hid hpx
    clear P hpx
    go_wp2_with ((with_reducible refine (P2.out _ HB.out).mono ?_); rintro e w' ⟨rfl, hb⟩)
    go_roundw
    case rel =>
     refine ⟨k + 1, by omega, by go_num, ⟨fun x hx => ?_⟩, ⟨HB.out.trans (hb.mono HB.out.size)⟩⟩
     have hx' := (ix_mem_take l k c x).1 hx
     cases hx' with
     | inl h => exact HN.out x h
     | inr h => rw [h, HX]; exact HPX
    case measure => simp [intOf]; omega
   ·have P2 := Lib.hid (fun w1 hb => by have := P.out w1 hb; rw [hpx] at this; exact this)
    have hany : l.any p = true := by
     rw [List.any_eq_true]
     exact ⟨X, by rw [← HX.out]; exact List.getElem_mem c, hpx⟩
    have HANY := Lib.hid hany
    clear P hpx hany
    go_wp2_with ((with_reducible refine (P2.out _ HB.out).mono ?_); rintro e w' ⟨rfl, hb⟩)
    go_ret
    exact ⟨⟨k, rfl, by rw [HANY.out]; simp⟩, HB.out.trans (hb.mono HB.out.size)⟩
  ·obtain rfl : k = l.length := by omega
   have hany : l.any p = false := by
    rw [List.any_eq_false]
    intro x hx
    have := HN.out x (by rw [List.take_length]; exact hx)
    simp [this]
   have HANY := Lib.hid hany
   clear hany
   go_wp2
   go_ret
   exact ⟨⟨-1, rfl, by rw [HANY.out]; rfl⟩, HB.out⟩
set_option maxHeartbeats 800000 in
set_option maxRecDepth 100000 in
theorem ix_strc (p : ByteArray → Bool) (fn : Nat) (cp : Value) (A0 : Option Addr) (c0 : Nat) (l : List ByteArray) (w : World)
  (hp : ∀ (x : ByteArray) (w1 : World), x ∈ l → Below w.heap.size w w1 → Calls Try.prog fn #[.string x, cp] w1 fun e w' => e = .returned (.bool (p x)) ∧ Below w1.heap.size w1 w')
  (hfn : ∀ args w, (callFunc fn args).run Try.prog w = .ok (.enter fn args) w) (hr0 : Kd.C Kd.string w A0 l.length l) (hl : l.length ≤ 1000) :
  Calls Try.prog 54 #[.slice A0 l.length c0, .func (Fn.func fn) #[] #[cp]] w fun e w' => (∃ r : Int, e = .returned (.int .i64 r) ∧ decide (0 ≤ r) = l.any p) ∧ Below w.heap.size w w' := by
 have HR := Aside0.mk hr0
 have HP := Lib.hid hp
 clear hr0 hp
 go_enter Try.func54, Try.ntmps54
 go_wp2
 go_loopw [8] (fun v8 wr => ∃ k : Nat, k ≤ l.length ∧ v8 = .int .i64 (k : Int) ∧ Aside0 (∀ x ∈ l.take k, p x = false) ∧ Aside0 (Below w.heap.size w wr)) (fun v8 wr => l.length - (intOf v8).toNat)
 case atStart => exact ⟨0, by omega, rfl, ⟨by simp⟩, ⟨Below.refl _ _⟩⟩
 case round =>
  obtain ⟨k, hk, rfl, HN, HB⟩ := hrel
  by_cases c : k < l.length
  ·obtain ⟨X, hX⟩ : ∃ X, l[k] = X := ⟨_, rfl⟩
   obtain ⟨ad, e1, hx0⟩ := ix_at_str (Kd.C_below HR.out HB.out) k c
   rw [hX] at hx0
   cases e1
   have P := Lib.hid (fun w1 hb => HP.out X w1 (by rw [← hX]; exact List.getElem_mem c) hb)
   have HX := Lib.hid hX
   clear hX
   cases hpx : p X
   ·have P2 := Lib.hid (fun w1 hb => by have := P.out w1 hb; rw [hpx] at this; exact this)
    have HPX := Lib.hid hpx
    clear P hpx
    go_wp2_with ((with_reducible refine (P2.out _ HB.out).mono ?_); rintro e w' ⟨rfl, hb⟩)
    go_roundw
    case rel =>
     refine ⟨k + 1, by omega, by go_num, ⟨fun x hx => ?_⟩, ⟨HB.out.trans (hb.mono HB.out.size)⟩⟩
     have hx' := (ix_mem_take l k c x).1 hx
     cases hx' with
     | inl h => exact HN.out x h
     | inr h => rw [h, HX]; exact HPX
    case measure => simp [intOf]; omega
   ·have P2 := Lib.hid (fun w1 hb => by have := P.out w1 hb; rw [hpx] at this; exact this)
    have hany : l.any p = true := by
     rw [List.any_eq_true]
     exact ⟨X, by rw [← HX.out]; exact List.getElem_mem c, hpx⟩
    have HANY := Lib.hid hany
    clear P hpx hany
    go_wp2_with ((with_reducible refine (P2.out _ HB.out).mono ?_); rintro e w' ⟨rfl, hb⟩)
    go_ret
    exact ⟨⟨k, rfl, by rw [HANY.out]; simp⟩, HB.out.trans (hb.mono HB.out.size)⟩
  ·obtain rfl : k = l.length := by omega
   have hany : l.any p = false := by
    rw [List.any_eq_false]
    intro x hx
    have := HN.out x (by rw [List.take_length]; exact hx)
    simp [this]
   have HANY := Lib.hid hany
   clear hany
   go_wp2
   go_ret
   exact ⟨⟨-1, rfl, by rw [HANY.out]; rfl⟩, HB.out⟩
set_option maxHeartbeats 800000 in
set_option maxRecDepth 100000 in
theorem ix_agg (p : S43 → Bool) (fn : Nat) (A0 : Option Addr) (c0 : Nat) (l : List S43) (w : World)
  (hp : ∀ (x : S43) (w1 : World), x ∈ l → Below w.heap.size w w1 → Calls Try.prog fn #[.agg #[.int .i64 x.f0, .int .i64 x.f1, .string x.f2]] w1 fun e w' => e = .returned (.bool (p x)) ∧ Below w1.heap.size w1 w')
  (hfn : ∀ args w, (callFunc fn args).run Try.prog w = .ok (.enter fn args) w) (hr0 : Kd.C k43 w A0 l.length l) (hl : l.length ≤ 1000) :
  Calls Try.prog 55 #[.slice A0 l.length c0, .func (Fn.func fn) #[] #[]] w fun e w' => (∃ r : Int, e = .returned (.int .i64 r) ∧ decide (0 ≤ r) = l.any p) ∧ Below w.heap.size w w' := by
 have HR := Aside0.mk hr0
 have HP := Lib.hid hp
 clear hr0 hp
 go_enter Try.func55, Try.ntmps55
 go_wp2
 go_loopw [8] (fun v8 wr => ∃ k : Nat, k ≤ l.length ∧ v8 = .int .i64 (k : Int) ∧ Aside0 (∀ x ∈ l.take k, p x = false) ∧ Aside0 (Below w.heap.size w wr)) (fun v8 wr => l.length - (intOf v8).toNat)
 case atStart => exact ⟨0, by omega, rfl, ⟨by simp⟩, ⟨Below.refl _ _⟩⟩
 case round =>
  obtain ⟨k, hk, rfl, HN, HB⟩ := hrel
  by_cases c : k < l.length
  ·obtain ⟨X, hX⟩ : ∃ X, l[k] = X := ⟨_, rfl⟩
   obtain ⟨ad, e1, hx0, hx1, hx2⟩ := at_T43 (Kd.C_below HR.out HB.out) (k : Int) (by omega) (by omega)
   have hrd : rd_T43 l (k : Int) = X := by
    unfold rd_T43
    rw [Int.toNat_natCast, List.getD_eq_getElem?_getD, List.getElem?_eq_getElem c]
    exact hX
   rw [Int.toNat_natCast, hrd] at hx0 hx1 hx2
   clear hrd
   cases e1
   have P := Lib.hid (fun w1 hb => HP.out X w1 (by rw [← hX]; exact List.getElem_mem c) hb)
   have HX := Lib.hid hX
   clear hX
   cases hpx : p X
   ·have P2 := Lib.hid (fun w1 hb => by have := P.out w1 hb; rw [hpx] at this; exact this)
    have HPX := Lib.hid hpx
    clear P hpx
    go_wp2_with ((with_reducible refine (P2.out _ HB.out).mono ?_); rintro e w' ⟨rfl, hb⟩)
    go_roundw
    case rel =>
     refine ⟨k + 1, by omega, by go_num, ⟨fun x hx => ?_⟩, ⟨HB.out.trans (hb.mono HB.out.size)⟩⟩
     have hx' := (ix_mem_take l k c x).1 hx
     cases hx' with
     | inl h => exact HN.out x h
     | inr h => rw [h, HX]; exact HPX
    case measure => simp [intOf]; omega
   ·have P2 := Lib.hid (fun w1 hb => by have := P.out w1 hb; rw [hpx] at this; exact this)
    have hany : l.any p = true := by
     rw [List.any_eq_true]
     exact ⟨X, by rw [← HX.out]; exact List.getElem_mem c, hpx⟩
    have HANY := Lib.hid hany
    clear P hpx hany
    go_wp2_with ((with_reducible refine (P2.out _ HB.out).mono ?_); rintro e w' ⟨rfl, hb⟩)
    go_ret
    exact ⟨⟨k, rfl, by rw [HANY.out]; simp⟩, HB.out.trans (hb.mono HB.out.size)⟩
  ·obtain rfl : k = l.length := by omega
   have hany : l.any p = false := by
    rw [List.any_eq_false]
    intro x hx
    have := HN.out x (by rw [List.take_length]; exact hx)
    simp [this]
   have HANY := Lib.hid hany
   clear hany
   go_wp2
   go_ret
   exact ⟨⟨-1, rfl, by rw [HANY.out]; rfl⟩, HB.out⟩
end Go.Proofs.Ytpidiibhgfjemaa.PLh
end
section
namespace Go.Proofs.Ytpidiibhgfjemaa.EvP
open Go.RowKit Go.Proofs.YtpidiibhgfjemaaW.PrintWords Go.Proofs.YtpidiibhgfjemaaW.PrintLast Go.Proofs.YtpidiibhgfjemaaW.PrintMore
open Go.Proofs.Ytpidiibhgfjemaa.PLg
set_option linter.unusedSimpArgs false
abbrev O := S79
def U {α : Type} (f : Nat → Option α) (r : α) : Prop := ∃ k0, ∀ k, k0 ≤ k → f k = some r
theorem U.succ {α : Type} {f : Nat → Option α} {r : α} (h : U (fun k => f (k + 1)) r) : U f r := by
 obtain ⟨k0, h⟩ := h
 refine ⟨k0 + 1, fun k hk => ?_⟩
 obtain ⟨j, rfl⟩ : ∃ j, k = j + 1 := ⟨k - 1, by omega⟩
 exact h j (by omega)
theorem U.some {α : Type} (r : α) : U (fun _ => some r) r := ⟨0, fun _ _ => rfl⟩
theorem U.const {α : Type} {x : Option α} {r : α} (h : x = Option.some r) : U (fun _ => x) r := ⟨0, fun _ _ => h⟩
theorem U.bind {α β : Type} {f : Nat → Option α} {a : α} {g : Nat → α → Option β} {r : β} (hf : U f a) (hg : U (fun k => g k a) r) : U (fun k => (f k).bind (g k)) r := by
 obtain ⟨k0, h0⟩ := hf
 obtain ⟨k1, h1⟩ := hg
 refine ⟨max k0 k1, fun k hk => ?_⟩
 show (f k).bind (g k) = _
 rw [h0 k (by omega)]
 exact h1 k (by omega)
theorem U.map {α β : Type} {f : Nat → Option α} {a : α} {g : α → β} (hf : U f a) : U (fun k => (f k).map g) (g a) := by
 obtain ⟨k0, h0⟩ := hf
 exact ⟨k0, fun k hk => by show (f k).map g = _; rw [h0 k hk]; rfl⟩
theorem U.congr {α : Type} {f g : Nat → Option α} {r : α} (h : U f r) (e : ∀ k, g k = f k) : U g r := by
 obtain ⟨k0, h0⟩ := h
 exact ⟨k0, fun k hk => (e k).trans (h0 k hk)⟩
theorem U.congr_r {α : Type} {f : Nat → Option α} {r s : α} (h : U f r) (e : r = s) : U f s := e ▸ h
theorem U.uniq {α : Type} {f : Nat → Option α} {r s : α} (h : U f r) (g : U f s) : r = s := by
 obtain ⟨k0, h0⟩ := h
 obtain ⟨k1, h1⟩ := g
 exact Option.some.inj ((h0 (max k0 k1) (by omega)).symm.trans (h1 (max k0 k1) (by omega)))
theorem U.pos {α : Type} {c : Prop} [Decidable c] {f g : Nat → Option α} {r : α} (h : c) (hf : U f r) : U (fun k => if c then f k else g k) r := hf.congr fun _ => if_pos h
theorem U.neg {α : Type} {c : Prop} [Decidable c] {f g : Nat → Option α} {r : α} (h : ¬ c) (hf : U g r) : U (fun k => if c then f k else g k) r := hf.congr fun _ => if_neg h
theorem U.get {α : Type} {f : Nat → Option α} {r : α} (h : U f r) : ∃ k, f k = Option.some r := by
 obtain ⟨k0, h0⟩ := h
 exact ⟨k0, h0 k0 (Nat.le_refl _)⟩
theorem w64 {x : Int} (h0 : -9223372036854775808 ≤ x) (h1 : x ≤ 9223372036854775807) : wrap64 x = x := by unfold wrap64; omega
def takes (c : Int) : Int := if c < 1 ∨ c > 20 then -1 else if c ≤ 3 then 0 else if c ≤ 6 then 1 else 2
theorem takes_E (c : Int) : U (fun k => expr_Takes.f k c) (takes c) := by
 refine ⟨3, fun k hk => ?_⟩
 obtain ⟨j, rfl⟩ : ∃ j, k = j + 3 := ⟨k - 3, by omega⟩
 show expr_Takes.f (j + 3) c = _
 unfold expr_Takes.f takes
 simp only [expr_Takes.j0, expr_Takes.j1, decide_eq_true_eq, Bool.false_eq_true, if_false]
 repeat' split
 all_goals first | rfl | (exfalso; omega)
theorem takes_R (c : Int) : U (fun k => rescindref17_Takes.f k c) (takes c) := by
 refine ⟨3, fun k hk => ?_⟩
 obtain ⟨j, rfl⟩ : ∃ j, k = j + 3 := ⟨k - 3, by omega⟩
 show rescindref17_Takes.f (j + 3) c = _
 unfold rescindref17_Takes.f takes
 simp only [rescindref17_Takes.j0, decide_eq_true_eq, Bool.false_eq_true, if_false, if_true]
 repeat' split
 all_goals first | rfl | (exfalso; omega)
def noT (t : ByteArray) : Bool := t.toList == ([] : List UInt8)
def okW (o : O) : Bool :=
 if o.f0 = 1 then noT o.f2 else if o.f0 = 2 then decide (o.f1 = 0 ∧ o.f2.size ≤ 64) else if o.f0 = 3 then decide (0 ≤ o.f1 ∧ o.f1 < 8) && noT o.f2
 else decide (0 ≤ takes o.f0 ∧ o.f1 = 0) && noT o.f2
theorem word_E (o : O) : U (fun k => expr_word.f k o.f0 o.f1 o.f2) (okW o) := by
 obtain ⟨c, n, t⟩ := o
 unfold expr_word.f okW noT
 simp only
 by_cases h1 : c = 1
 ·refine U.pos h1 ?_; rw [if_pos h1]; exact U.some _
 refine U.neg h1 ?_; rw [if_neg h1]
 by_cases h2 : c = 2
 ·refine U.pos h2 ?_; rw [if_pos h2]
  by_cases h3 : n = 0
  ·refine U.pos h3 ?_; refine U.const ?_; congr 1; simp [h3]; omega
  ·refine U.neg h3 ?_; refine U.const ?_; congr 1; simp [h3]
 refine U.neg h2 ?_; rw [if_neg h2]
 by_cases h3 : c = 3
 ·refine U.pos h3 ?_; rw [if_pos h3]
  by_cases h4 : n ≥ 0
  ·refine U.pos h4 ?_
   by_cases h5 : n < 8
   ·refine U.pos h5 ?_; refine U.const ?_; simp [h5]; omega
   ·refine U.neg h5 ?_; refine U.const ?_; simp [h5]
  ·refine U.neg h4 ?_; refine U.const ?_; simp; omega
 refine U.neg h3 ?_; rw [if_neg h3]
 refine U.bind (takes_E c) ?_
 by_cases h4 : takes c ≥ 0
 ·refine U.pos h4 ?_
  by_cases h5 : n = 0
  ·refine U.pos h5 ?_; refine U.const ?_; simp [h5]; omega
  ·refine U.neg h5 ?_; refine U.const ?_; simp [h5]
 ·refine U.neg h4 ?_; refine U.const ?_; simp; omega
theorem word_R (o : O) : U (fun k => rescindref17_Word.f k o.f0 o.f1 o.f2) (okW o) := by
  obtain ⟨c, n, t⟩ := o
  refine U.bind (takes_R c) ?_
  unfold okW noT
  simp only
  have ht : takes c < 0 ↔ (c < 1 ∨ c > 20) := by unfold takes; repeat' split
                                                 all_goals omega
  by_cases h1 : takes c < 0
  · refine U.pos h1 ?_
    refine U.const ?_
    have := ht.1 h1
    rw [if_neg (by omega), if_neg (by omega), if_neg (by omega)]
    simp; omega
  refine U.neg h1 ?_
  have hj : ∀ b : Bool, U (fun k => rescindref17_Word.j0 k b c n t) (if b then false else if c = 1 then true else if c = 3 then decide (0 ≤ n ∧ n < 8) else n == 0) := by
    intro b
    refine U.succ ?_
    simp only [rescindref17_Word.j0]
    by_cases hb : b = true
    · refine U.pos hb ?_; subst hb; exact U.some _
    refine U.neg hb ?_
    rw [if_neg hb]
    by_cases c1 : c = 1
    · refine U.pos c1 ?_; rw [if_pos c1]; exact U.some _
    refine U.neg c1 ?_
    rw [if_neg c1]
    by_cases c3 : c = 3
    · refine U.pos c3 ?_; rw [if_pos c3]
      by_cases n0 : n ≥ 0
      · refine U.pos n0 ?_
        refine U.const ?_
        congr 1
        simp; omega
      · refine U.neg n0 ?_
        refine U.const ?_
        congr 1
        simp; omega
    refine U.neg c3 ?_
    rw [if_neg c3]
    exact U.some _
  by_cases h2 : c = 2
  · subst h2
    refine U.pos rfl ?_
    have := hj (decide ((t.size : Int) > 64))
    refine this.congr_r ?_
    by_cases hs : t.size ≤ 64
    · rw [if_neg (by simp; omega)]; simp [hs]
      by_cases hn : n = 0 <;> simp [hn]
    · rw [if_pos (by simp; omega)]; simp [hs]
  refine U.neg h2 ?_
  rw [if_neg h2]
  by_cases ht0 : t.toList = []
  · refine U.pos ht0 ?_
    have hsz : t.size = 0 := by rw [(toList_nil_iff_emptyBytes t).1 ht0]; rfl
    have := hj (decide ((t.size : Int) > 64))
    refine this.congr_r ?_
    rw [hsz, ht0]
    rw [if_neg (by simp)]
    by_cases c1 : c = 1
    · simp [c1]
    rw [if_neg c1, if_neg c1]
    by_cases c3 : c = 3
    · simp [c3]
    rw [if_neg c3, if_neg c3]
    have : 0 ≤ takes c := by omega
    by_cases hn : n = 0 <;> simp [hn, this]
  · refine U.neg ht0 ?_
    refine (hj true).congr_r ?_
    rw [if_pos rfl]
    by_cases c1 : c = 1
    · simp [c1, ht0]
    rw [if_neg c1]
    by_cases c3 : c = 3
    · simp [c3, ht0]
    rw [if_neg c3]
    simp [ht0]
inductive T where
 | l (o : O)
 | u (o : O) (t : T)
 | b (o : O) (t s : T)
def T.fl : T → List O
 | .l o => [o]
 | .u o t => t.fl ++ [o]
 | .b o t s => t.fl ++ (s.fl ++ [o])
def T.ok : T → Prop
 | .l o => okW o = true ∧ takes o.f0 = 0
 | .u o t => okW o = true ∧ takes o.f0 = 1 ∧ t.ok
 | .b o t s => okW o = true ∧ takes o.f0 = 2 ∧ t.ok ∧ s.ok
theorem T.fl_pos (t : T) : 0 < t.fl.length := by cases t <;> simp [T.fl] <;> omega
theorem okW_takes {o : O} (h : okW o = true) : takes o.f0 = 0 ∨ takes o.f0 = 1 ∨ takes o.f0 = 2 := by
  obtain ⟨c, n, t⟩ := o
  have : takes c = -1 ∨ takes c = 0 ∨ takes c = 1 ∨ takes c = 2 := by unfold takes; repeat' split
                                                                      all_goals simp
  rcases this with h1 | h1
  · exfalso
    have hc : c < 1 ∨ c > 20 := by
      unfold takes at h1
      split at h1
      · assumption
      · split at h1
        · simp at h1
        · split at h1 <;> simp at h1
    unfold okW at h
    simp only at h
    rw [if_neg (by omega), if_neg (by omega), if_neg (by omega), h1] at h
    simp at h
  · exact h1
def push (o : O) (st : List T) : Option (List T) :=
 if okW o = true then (if takes o.f0 = 0 then some (.l o :: st) else if takes o.f0 = 1 then (match st with
   | t :: st => some (.u o t :: st)
   | [] => none) else (match st with
   | s :: t :: st => some (.b o t s :: st)
   | _ => none)) else none
def parse : List O → List T → Option (List T)
 | [], st => some st
 | o :: os, st => (push o st).bind (parse os)
theorem parse_cons (o : O) (os : List O) (st : List T) : parse (o :: os) st = (push o st).bind (parse os) := rfl
def flS : List T → List O
 | [] => []
 | t :: st => flS st ++ t.fl
theorem parse_inv : ∀ (x : List O) (st st' : List T), parse x st = some st' → flS st ++ x = flS st' ∧ ((∀ t ∈ st, t.ok) → ∀ t ∈ st', t.ok)
 | [], st, st', h => by simp only [parse] at h; cases h; simp
 | o :: os, st, st', h => by
  rw [parse_cons] at h
  unfold push at h
  by_cases hw : okW o = true
  ·rw [if_pos hw] at h
   rcases okW_takes hw with h0 | h0 | h0
   ·rw [if_pos h0] at h
    obtain ⟨a, b⟩ := parse_inv os _ st' h
    refine ⟨?_, fun hk => b ?_⟩
    ·rw [← a]; simp [flS, T.fl]
    ·intro t ht
     rcases List.mem_cons.1 ht with rfl | ht
     ·exact ⟨hw, h0⟩
     ·exact hk t ht
   ·rw [if_neg (by omega), if_pos h0] at h
    cases st with
    | nil => simp at h
    | cons t st =>
     obtain ⟨a, b⟩ := parse_inv os _ st' h
     refine ⟨?_, fun hk => b ?_⟩
     ·rw [← a]; simp [flS, T.fl]
     ·intro t' ht
      rcases List.mem_cons.1 ht with rfl | ht
      ·exact ⟨hw, h0, hk t (by simp)⟩
      ·exact hk t' (by simp [ht])
   ·rw [if_neg (by omega), if_neg (by omega)] at h
    match st, h with
    | s :: t :: st, h =>
     obtain ⟨a, b⟩ := parse_inv os _ st' h
     refine ⟨?_, fun hk => b ?_⟩
     ·rw [← a]; simp [flS, T.fl]
     ·intro t' ht
      rcases List.mem_cons.1 ht with rfl | ht
      ·exact ⟨hw, h0, hk t (by simp), hk s (by simp)⟩
      ·exact hk t' (by simp [ht])
  ·rw [if_neg hw] at h
   simp at h
theorem parse_fl : ∀ (t : T), t.ok → ∀ ys st, parse (t.fl ++ ys) st = parse ys (t :: st)
 | .l o, h, ys, st => by
  show parse (o :: ys) st = _
  rw [parse_cons]; unfold push; rw [if_pos h.1, if_pos h.2]
  rfl
 | .u o t, h, ys, st => by
  show parse ((t.fl ++ [o]) ++ ys) st = _
  rw [List.append_assoc, parse_fl t h.2.2]
  show parse (o :: ys) (t :: st) = _
  have := h.2.1
  rw [parse_cons]; unfold push; rw [if_pos h.1, if_neg (by omega), if_pos this]
  rfl
 | .b o t s, h, ys, st => by
  show parse ((t.fl ++ (s.fl ++ [o])) ++ ys) st = _
  rw [List.append_assoc, parse_fl t h.2.2.1, List.append_assoc, parse_fl s h.2.2.2]
  show parse (o :: ys) (s :: t :: st) = _
  have := h.2.1
  rw [parse_cons]; unfold push; rw [if_pos h.1, if_neg (by omega), if_neg (by omega)]
  rfl
def formR (r : Option (List T)) : Int := match r with
 | some [_] => 0
 | _ => 18
theorem formR_0 {r : Option (List T)} (h : formR r = 0) : ∃ t, r = some [t] := by
 unfold formR at h
 split at h
 ·exact ⟨_, rfl⟩
 ·simp at h
theorem formR_or (r : Option (List T)) : formR r = 0 ∨ formR r = 18 := by
 unfold formR
 split
 ·exact .inl rfl
 ·exact .inr rfl
theorem parse_one {x : List O} {t : T} (h : parse x [] = some [t]) : t.ok ∧ x = t.fl := by
 obtain ⟨a, b⟩ := parse_inv x [] [t] h
 exact ⟨b (by simp) t (by simp), by simpa [flS] using a⟩
theorem rd_at (p : List O) (o : O) (q : List O) : rd_T79 (p ++ o :: q) (p.length : Int) = o := by
 unfold rd_T79
 simp
theorem form_l0 (x : List O) (hx : x.length ≤ 64) : ∀ (ys p : List O) (st : List T), x = p ++ ys → st.length ≤ p.length → U (fun k => expr_Form.l0 k (st.length : Int) x (x.length : Int) (p.length : Int)) (formR (parse ys st))
 | [], p, st, h, hs => by
  refine U.succ ?_
  simp only [expr_Form.l0]
  refine U.neg (by rw [h]; simp) ?_
  match st with
  | [] => exact U.some _
  | [t] => exact U.some _
  | s :: t :: st =>
   refine U.neg (by simp; omega) ?_
   exact U.some _
 | o :: os, p, st, h, hs => by
  have hl : x.length = p.length + (os.length + 1) := by rw [h]; simp
  refine U.succ ?_
  simp only [expr_Form.l0]
  refine U.pos (by omega) (U.pos (by omega) (U.pos (by omega) ?_))
  rw [h, rd_at, ← h]
  refine U.bind (word_E o) ?_
  have ih := fun st' => form_l0 x hx os (p ++ [o]) st' (by rw [h]; simp)
  have hp : wrap64 ((p.length : Int) + 1) = ((p ++ [o]).length : Int) := by rw [w64 (by omega) (by omega)]; simp
  rw [parse_cons]
  unfold push
  by_cases hw : okW o = true
  ·refine U.pos hw ?_
   rw [if_pos hw]
   refine U.bind (takes_E o.f0) ?_
   rcases okW_takes hw with h0 | h0 | h0
   ·rw [if_pos h0]
    refine U.neg (by omega) (U.bind (takes_E o.f0) ?_)
    have := ih (.l o :: st) (by simp; omega)
    rw [h0, hp]
    refine this.congr fun k => ?_
    congr 1
    rw [w64 (x := 1 - 0) (by omega) (by omega), w64 (by omega) (by omega)]; simp
   ·rw [if_neg (by omega), if_pos h0]
    match st, hs with
    | [], hs => exact U.pos (by simp; omega) (U.some _)
    | t :: st, hs =>
     simp at hs
     refine U.neg (by simp; omega) (U.bind (takes_E o.f0) ?_)
     have := ih (.u o t :: st) (by simp; omega)
     rw [h0, hp]
     refine this.congr fun k => ?_
     congr 1
     rw [w64 (x := 1 - 1) (by omega) (by omega), w64 (by simp; omega) (by simp; omega)]; simp
   ·rw [if_neg (by omega), if_neg (by omega)]
    match st, hs with
    | [], hs => exact U.pos (by simp; omega) (U.some _)
    | [t], hs => exact U.pos (by simp; omega) (U.some _)
    | s :: t :: st, hs =>
     simp at hs
     refine U.neg (by simp; omega) (U.bind (takes_E o.f0) ?_)
     have := ih (.b o t s :: st) (by simp; omega)
     rw [h0, hp]
     refine this.congr fun k => ?_
     congr 1
     rw [w64 (x := 1 - 2) (by omega) (by omega), w64 (by simp; omega) (by simp; omega)]; simp; omega
  ·refine U.neg hw ?_
   rw [if_neg hw]
   exact U.some _
def formV (x : List O) : Int := if x.length > 64 then 6 else formR (parse x [])
theorem form_E (x : List O) : U (fun k => expr_Form.f k x) (formV x) := by
 unfold expr_Form.f formV
 by_cases h : x.length > 64
 ·rw [if_pos h]; exact U.pos (by omega) (U.some _)
 ·rw [if_neg h]
  exact U.neg (by omega) (form_l0 x (by omega) x [] [] rfl (by simp))
end Go.Proofs.Ytpidiibhgfjemaa.EvP
end
