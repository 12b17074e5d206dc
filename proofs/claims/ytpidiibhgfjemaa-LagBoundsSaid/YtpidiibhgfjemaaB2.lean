/- Texts of this claim, put together by a program: PLgx2, PLgx3, PLgx4, PLgx5, PLgx, LgA, LgB, EvP, EvT, LgName, LgC. -/
import Derived.Test.YtpidiibhgfjemaaB1
import Derived.Lib.Hide
import Derived.Laws.NewBlocks
import Derived.Laws.Closers25b
section
namespace Go.Proofs.Ytpidiibhgfjemaa.PLg
open Go.RowKit Go.Proofs.YtpidiibhgfjemaaW.PrintWords Go.Proofs.YtpidiibhgfjemaaW.PrintLast Go.Proofs.YtpidiibhgfjemaaW.PrintMore
attribute [local go_sem] max2_int min2_int max_two min_two max_three min_three max_four min_four
set_option linter.unusedVariables false
set_option linter.unusedSimpArgs false
mutual
def expr_Takes.j0 : Nat → Int → Bool → Option (Int)
 | 0, _, _ => none
 | k + 1, x0, x3 => if x3 = true then (some 0) else (if x0 ≥ 4 then (expr_Takes.j1 k x0 (decide (x0 ≤ 6))) else (expr_Takes.j1 k x0 false))
def expr_Takes.j1 : Nat → Int → Bool → Option (Int)
 | 0, _, _ => none
 | k + 1, x0, x10 => if x10 = true then (some 1) else (if x0 ≥ 7 then (if x0 ≤ 20 then (some 2) else (some (-1))) else (some (-1)))
end
def expr_Takes.f (k : Nat) (a0 : Int) : Option (Int) := if a0 ≥ 1 then (expr_Takes.j0 k a0 (decide (a0 ≤ 3))) else (expr_Takes.j0 k a0 false)
theorem expr_Takes.mono_l : ∀ k, (∀ y0 y1, LeO (expr_Takes.j0 k y0 y1) (expr_Takes.j0 (k + 1) y0 y1)) ∧ (∀ y0 y1, LeO (expr_Takes.j1 k y0 y1) (expr_Takes.j1 (k + 1) y0 y1))
 | 0 => ⟨fun _ _ r h => by simp [expr_Takes.j0] at h, fun _ _ r h => by simp [expr_Takes.j1] at h⟩
 | k + 1 => by
  obtain ⟨ih0, ih1⟩ := expr_Takes.mono_l k
  refine ⟨?_, ?_⟩
  ·intro y0 y1
   unfold expr_Takes.j0
   repeat' first
   | (with_reducible exact ih0 _ _)
   | (with_reducible exact ih1 _ _)
   | (with_reducible exact LeO.refl _)
   | (with_reducible exact LeO.none _)
   | (with_reducible refine LeO.ite ?_ ?_)
   | (with_reducible refine LeO.bind ?_ (fun _ => ?_))
   | exact ih0 _ _
   | exact ih1 _ _
   | exact LeO.none _
   | refine LeO.ite ?_ ?_
   | refine LeO.bind ?_ (fun _ => ?_)
  ·intro y0 y1
   unfold expr_Takes.j1
   repeat' first
   | (with_reducible exact ih0 _ _)
   | (with_reducible exact ih1 _ _)
   | (with_reducible exact LeO.refl _)
   | (with_reducible exact LeO.none _)
   | (with_reducible refine LeO.ite ?_ ?_)
   | (with_reducible refine LeO.bind ?_ (fun _ => ?_))
   | exact ih0 _ _
   | exact ih1 _ _
   | exact LeO.none _
   | refine LeO.ite ?_ ?_
   | refine LeO.bind ?_ (fun _ => ?_)
theorem expr_Takes.mono : ∀ a0 k, LeO (expr_Takes.f k a0) (expr_Takes.f (k + 1) a0) := by
 intro a0 k
 obtain ⟨ih0, ih1⟩ := expr_Takes.mono_l k
 unfold expr_Takes.f
 repeat' first
   | (with_reducible exact ih0 _ _)
   | (with_reducible exact ih1 _ _)
   | (with_reducible exact LeO.refl _)
   | (with_reducible exact LeO.none _)
   | (with_reducible refine LeO.ite ?_ ?_)
   | (with_reducible refine LeO.bind ?_ (fun _ => ?_))
   | exact ih0 _ _
   | exact ih1 _ _
   | exact LeO.none _
   | refine LeO.ite ?_ ?_
   | refine LeO.bind ?_ (fun _ => ?_)
set_option maxHeartbeats 8000000 in
set_option maxRecDepth 100000 in
theorem expr_Takes.calls (k : Nat) (a0 : Int) (r : Int) (w : World) (h : expr_Takes.f k a0 = some r) :
  Calls Try.prog 46 #[.int .i64 a0] w fun e w' => e = .returned (.int .i64 r) ∧ Drawn0 w w' := by
 have H : (if a0 ≥ 1 then (expr_Takes.j0 k a0 (decide (a0 ≤ 3))) else (expr_Takes.j0 k a0 false)) = some r := h
 clear h
 have HC2 := Aside0.mk H
 clear H
 go_enter Try.func46, Try.ntmps46
 go_upto_region 1 with (fail)
 go_cut [3] (fun v3 wc => ∃ (kq : Nat) (x3_1 : Bool), v3 = .bool x3_1 ∧ Aside0 (expr_Takes.j0 kq a0 x3_1 = some r) ∧ Aside0 (kq ≤ k) ∧ Drawn0 w wc)
 case first =>
  have H := HC2.out
  clear HC2
  by_cases c3 : a0 ≥ 1
  ·rw [if_pos c3] at H
   have c3b0 : decide (1 ≤ a0) = true := decide_eq_true c3
   clear c3
   (first | rw [c3b0] | (simp only [i64_w, i32_w]; rw [c3b0]) | skip)
   have H' := Aside0.mk H
   clear H
   go_wp2
   go_meet
   case rel => exact ⟨_, (decide (a0 ≤ 3)), (by first | rfl | (simp; done) | (simp [*]; done)), H', ⟨by first | omega | exact Nat.le_refl _⟩, by repeat (first | exact Drawn0.refl _ | apply Drawn0.step)⟩
  ·rw [if_neg c3] at H
   have c3b0 : decide (1 ≤ a0) = false := decide_eq_false c3
   clear c3
   (first | rw [c3b0] | (simp only [i64_w, i32_w]; rw [c3b0]) | skip)
   have H' := Aside0.mk H
   clear H
   go_wp2
   go_meet
   case rel => exact ⟨_, (false), (by first | rfl | (simp; done) | (simp [*]; done)), H', ⟨by first | omega | exact Nat.le_refl _⟩, by repeat (first | exact Drawn0.refl _ | apply Drawn0.step)⟩
 case rest =>
  clear HC2
  try clear p2
  try clear c3
  try clear c3b0
  obtain ⟨kq, x3_1, rfl, HA, HJ1, ⟨mc1, rfl⟩⟩ := hcut
  cases kq with
  | zero => exact absurd HA.out (by simp [expr_Takes.j0])
  | succ kj1 =>
   have H := HA.out
   clear HA
   simp only [expr_Takes.j0] at H
   by_cases c4 : x3_1 = true
   ·subst c4
    have H1 : (some 0) = some r := by rw [if_pos rfl] at H; exact H
    clear H
    have H := H1
    clear H1
    obtain rfl := Option.some.inj H
    go_wp2
    go_ret
    exact ⟨by first | rfl | (simp; done) | (simp [*]; done), by repeat (first | exact Drawn0.refl _ | apply Drawn0.step)⟩
   ·replace c4 := Bool.eq_false_iff.mpr c4
    subst c4
    have H1 : (if a0 ≥ 4 then (expr_Takes.j1 kj1 a0 (decide (a0 ≤ 6))) else (expr_Takes.j1 kj1 a0 false)) = some r := by rw [if_neg (show ¬ (false = true) by decide)] at H; exact H
    clear H
    have H := H1
    clear H1
    have HC5 := Aside0.mk H
    clear H
    go_upto_region 3 with (fail)
    go_cut [10] (fun v10 wc => ∃ (kq : Nat) (x10_4 : Bool), v10 = .bool x10_4 ∧ Aside0 (expr_Takes.j1 kq a0 x10_4 = some r) ∧ Aside0 (kq ≤ kj1) ∧ Drawn0 w wc)
    case first =>
     have H := HC5.out
     clear HC5
     by_cases c6 : a0 ≥ 4
     ·rw [if_pos c6] at H
      have c6b0 : decide (4 ≤ a0) = true := decide_eq_true c6
      clear c6
      (first | rw [c6b0] | (simp only [i64_w, i32_w]; rw [c6b0]) | skip)
      have H' := Aside0.mk H
      clear H
      go_wp2
      go_meet
      case rel => exact ⟨_, (decide (a0 ≤ 6)), (by first | rfl | (simp; done) | (simp [*]; done)), H', ⟨by have := HJ1.out; first | omega | exact Nat.le_refl _⟩, by repeat (first | exact Drawn0.refl _ | apply Drawn0.step)⟩
     ·rw [if_neg c6] at H
      have c6b0 : decide (4 ≤ a0) = false := decide_eq_false c6
      clear c6
      (first | rw [c6b0] | (simp only [i64_w, i32_w]; rw [c6b0]) | skip)
      have H' := Aside0.mk H
      clear H
      go_wp2
      go_meet
      case rel => exact ⟨_, (false), (by first | rfl | (simp; done) | (simp [*]; done)), H', ⟨by have := HJ1.out; first | omega | exact Nat.le_refl _⟩, by repeat (first | exact Drawn0.refl _ | apply Drawn0.step)⟩
    case rest =>
     clear HC5
     try clear c1
     try clear p2
     try clear c3
     try clear c3b0
     try clear c4
     try clear c6
     try clear c6b0
     try clear p2
     obtain ⟨kq, x10_4, rfl, HA, HJ4, ⟨mc4, rfl⟩⟩ := hcut
     cases kq with
     | zero => exact absurd HA.out (by simp [expr_Takes.j1])
     | succ kj4 =>
      have H := HA.out
      clear HA
      simp only [expr_Takes.j1] at H
      by_cases c7 : x10_4 = true
      ·subst c7
       have H1 : (some 1) = some r := by rw [if_pos rfl] at H; exact H
       clear H
       have H := H1
       clear H1
       obtain rfl := Option.some.inj H
       go_wp2
       go_ret
       exact ⟨by first | rfl | (simp; done) | (simp [*]; done), by repeat (first | exact Drawn0.refl _ | apply Drawn0.step)⟩
      ·replace c7 := Bool.eq_false_iff.mpr c7
       subst c7
       have H1 : (if a0 ≥ 7 then (if a0 ≤ 20 then (some 2) else (some (-1))) else (some (-1))) = some r := by rw [if_neg (show ¬ (false = true) by decide)] at H; exact H
       clear H
       have H := H1
       clear H1
       by_cases c8 : a0 ≥ 7
       ·rw [if_pos c8] at H
        have c8b0 : decide (7 ≤ a0) = true := decide_eq_true c8
        clear c8
        by_cases c9 : a0 ≤ 20
        ·rw [if_pos c9] at H
         have c9b0 : decide (a0 ≤ 20) = true := decide_eq_true c9
         clear c9
         obtain rfl := Option.some.inj H
         go_wp2
         go_ret
         exact ⟨by first | rfl | (simp; done) | (simp [*]; done), by repeat (first | exact Drawn0.refl _ | apply Drawn0.step)⟩
        ·rw [if_neg c9] at H
         have c9b0 : decide (a0 ≤ 20) = false := decide_eq_false c9
         clear c9
         obtain rfl := Option.some.inj H
         go_wp2
         go_ret
         exact ⟨by first | rfl | (simp; done) | (simp [*]; done), by repeat (first | exact Drawn0.refl _ | apply Drawn0.step)⟩
       ·rw [if_neg c8] at H
        have c8b0 : decide (7 ≤ a0) = false := decide_eq_false c8
        clear c8
        obtain rfl := Option.some.inj H
        go_wp2
        go_ret
        exact ⟨by first | rfl | (simp; done) | (simp [*]; done), by repeat (first | exact Drawn0.refl _ | apply Drawn0.step)⟩
def expr_word.f (k : Nat) (a0_0 : Int) (a0_1 : Int) (a0_2 : ByteArray) : Option (Bool) := if a0_0 = 1 then (some (a0_2.toList == ([] : List UInt8))) else (if a0_0 = 2 then (if a0_1 = 0 then (some (decide ((a0_2.size : Int) ≤ 64))) else (some false)) else (if a0_0 = 3 then (if a0_1 ≥ 0 then (if a0_1 < 8 then (some (a0_2.toList == ([] : List UInt8))) else (some false)) else (some false)) else ((expr_Takes.f k a0_0).bind fun t388 => (if t388 ≥ 0 then (if a0_1 = 0 then (some (a0_2.toList == ([] : List UInt8))) else (some false)) else (some false)))))
theorem expr_word.mono : ∀ a0 a1 a2 k, LeO (expr_word.f k a0 a1 a2) (expr_word.f (k + 1) a0 a1 a2) := by
 intro a0 a1 a2 k
 unfold expr_word.f
 repeat' first
   | (with_reducible exact expr_Takes.mono _ _)
   | (with_reducible exact LeO.refl _)
   | (with_reducible exact LeO.none _)
   | (with_reducible refine LeO.ite ?_ ?_)
   | (with_reducible refine LeO.bind ?_ (fun _ => ?_))
   | exact expr_Takes.mono _ _
   | exact LeO.none _
   | refine LeO.ite ?_ ?_
   | refine LeO.bind ?_ (fun _ => ?_)
set_option maxHeartbeats 8000000 in
set_option maxRecDepth 100000 in
theorem expr_word.calls (k : Nat) (a0_0 : Int) (a0_1 : Int) (a0_2 : ByteArray) (r : Bool) (w : World) (h : expr_word.f k a0_0 a0_1 a0_2 = some r) :
  Calls Try.prog 45 #[.agg #[.int .i64 a0_0, .int .i64 a0_1, .string a0_2]] w fun e w' => e = .returned (.bool r) ∧ Below w.heap.size w w' := by
 have hu79 := Try.underlying79
 have HB := Aside0.mk (Below.refl w.heap.size w)
 have H : (if a0_0 = 1 then (some (a0_2.toList == ([] : List UInt8))) else (if a0_0 = 2 then (if a0_1 = 0 then (some (decide ((a0_2.size : Int) ≤ 64))) else (some false)) else (if a0_0 = 3 then (if a0_1 ≥ 0 then (if a0_1 < 8 then (some (a0_2.toList == ([] : List UInt8))) else (some false)) else (some false)) else ((expr_Takes.f k a0_0).bind fun t388 => (if t388 ≥ 0 then (if a0_1 = 0 then (some (a0_2.toList == ([] : List UInt8))) else (some false)) else (some false)))))) = some r := h
 clear h
 by_cases c2 : a0_0 = 1
 ·rw [if_pos c2] at H
  have c2b0 : (a0_0 == 1) = true := beq_iff_eq.mpr c2
  have c2b1 : (a0_0 != 1) = false := bne_eq_false_iff_eq.mpr c2
  clear c2
  obtain rfl := Option.some.inj H
  go_enter Try.func45, Try.ntmps45
  go_wp2_with (first | ((with_reducible refine gate_dst (N := 1) rfl ?_); (try (refine gate_guard (by rfl) ?_; dsimp only)); refine box_event ?hg (N := 1) ?hd (cs := #[.int .i64 a0_0, .int .i64 a0_1, .string a0_2]) (t := 79) ?hr ?_; (case hd => rfl); (case hg => rfl); (case hr => first | (go_simp; done) | (go_simp; rfl)); intro gb387 hg w3 hbox hb; have n0_ := Aside0.mk (below_step (by repeat (first | (with_reducible first | exact HB.out | apply below_alloc | apply pw_below_drewN | apply below_drew1) | exact HB.out)) hb); have n1_ := Aside0.mk (hbox); have n2_ := Aside0.mk ((by rw [hg]; exact (below_size (by repeat (first | (with_reducible first | exact HB.out | apply below_alloc | apply pw_below_drewN | apply below_drew1) | exact HB.out))) : w.heap.size ≤ gb387)); have n3_ := Aside0.mk ((by rw [hg]; exact (below_size (by repeat (first | (with_reducible first | exact HB.out | apply below_alloc | apply pw_below_drewN | apply below_drew1) | exact HB.out))) : w.heap.size ≤ gb387)); clear HB; have HB := n0_; have BK387 := n1_; have GW387 := n2_; have GE387 := n3_; clear n0_ n1_ n2_ n3_; clear hb hbox hg; have hcz4_0 : w3.cell? ⟨gb387, 0, none⟩ = some (.int .i64 a0_0) := (blk_cell BK387.out 0).trans rfl; have hcz4_1 : w3.cell? ⟨gb387, 1, none⟩ = some (.int .i64 a0_1) := (blk_cell BK387.out 1).trans rfl; have hcz4_2 : w3.cell? ⟨gb387, 2, none⟩ = some (.string a0_2) := (blk_cell BK387.out 2).trans rfl; have hfz4_0 := blk_frozen BK387.out 0; have hfz4_1 := blk_frozen BK387.out 1; have hfz4_2 := blk_frozen BK387.out 2))
  go_ret
  exact ⟨by first | rfl | (simp [errW_none, errW_some] <;> rfl) | (simp [*, errW_none, errW_some] <;> rfl), by repeat (first | (with_reducible first | exact HB.out | apply below_alloc | apply pw_below_drewN | apply below_drew1 | refine below_set ?_ GE387.out) | exact HB.out)⟩
 ·rw [if_neg c2] at H
  have c2b0 : (a0_0 == 1) = false := beq_eq_false_iff_ne.mpr c2
  have c2b1 : (a0_0 != 1) = true := bne_iff_ne.mpr c2
  by_cases c5 : a0_0 = 2
  ·rw [if_pos c5] at H
   have c5b0 : (a0_0 == 2) = true := beq_iff_eq.mpr c5
   have c5b1 : (a0_0 != 2) = false := bne_eq_false_iff_eq.mpr c5
   clear c5
   by_cases c6 : a0_1 = 0
   ·rw [if_pos c6] at H
    have c6b0 : (a0_1 == 0) = true := beq_iff_eq.mpr c6
    have c6b1 : (a0_1 != 0) = false := bne_eq_false_iff_eq.mpr c6
    clear c6
    obtain rfl := Option.some.inj H
    go_enter Try.func45, Try.ntmps45
    go_wp2_with (first | ((with_reducible refine gate_dst (N := 1) rfl ?_); (try (refine gate_guard (by rfl) ?_; dsimp only)); refine box_event ?hg (N := 1) ?hd (cs := #[.int .i64 a0_0, .int .i64 a0_1, .string a0_2]) (t := 79) ?hr ?_; (case hd => rfl); (case hg => rfl); (case hr => first | (go_simp; done) | (go_simp; rfl)); intro gb387 hg w7 hbox hb; have n0_ := Aside0.mk (below_step (by repeat (first | (with_reducible first | exact HB.out | apply below_alloc | apply pw_below_drewN | apply below_drew1) | exact HB.out)) hb); have n1_ := Aside0.mk (hbox); have n2_ := Aside0.mk ((by rw [hg]; exact (below_size (by repeat (first | (with_reducible first | exact HB.out | apply below_alloc | apply pw_below_drewN | apply below_drew1) | exact HB.out))) : w.heap.size ≤ gb387)); have n3_ := Aside0.mk ((by rw [hg]; exact (below_size (by repeat (first | (with_reducible first | exact HB.out | apply below_alloc | apply pw_below_drewN | apply below_drew1) | exact HB.out))) : w.heap.size ≤ gb387)); clear HB; have HB := n0_; have BK387 := n1_; have GW387 := n2_; have GE387 := n3_; clear n0_ n1_ n2_ n3_; clear hb hbox hg; have hcz8_0 : w7.cell? ⟨gb387, 0, none⟩ = some (.int .i64 a0_0) := (blk_cell BK387.out 0).trans rfl; have hcz8_1 : w7.cell? ⟨gb387, 1, none⟩ = some (.int .i64 a0_1) := (blk_cell BK387.out 1).trans rfl; have hcz8_2 : w7.cell? ⟨gb387, 2, none⟩ = some (.string a0_2) := (blk_cell BK387.out 2).trans rfl; have hfz8_0 := blk_frozen BK387.out 0; have hfz8_1 := blk_frozen BK387.out 1; have hfz8_2 := blk_frozen BK387.out 2))
    go_ret
    exact ⟨by first | rfl | (simp [errW_none, errW_some] <;> rfl) | (simp [*, errW_none, errW_some] <;> rfl), by repeat (first | (with_reducible first | exact HB.out | apply below_alloc | apply pw_below_drewN | apply below_drew1 | refine below_set ?_ GE387.out) | exact HB.out)⟩
   ·rw [if_neg c6] at H
    have c6b0 : (a0_1 == 0) = false := beq_eq_false_iff_ne.mpr c6
    have c6b1 : (a0_1 != 0) = true := bne_iff_ne.mpr c6
    obtain rfl := Option.some.inj H
    go_enter Try.func45, Try.ntmps45
    go_wp2_with (first | ((with_reducible refine gate_dst (N := 1) rfl ?_); (try (refine gate_guard (by rfl) ?_; dsimp only)); refine box_event ?hg (N := 1) ?hd (cs := #[.int .i64 a0_0, .int .i64 a0_1, .string a0_2]) (t := 79) ?hr ?_; (case hd => rfl); (case hg => rfl); (case hr => first | (go_simp; done) | (go_simp; rfl)); intro gb387 hg w9 hbox hb; have n0_ := Aside0.mk (below_step (by repeat (first | (with_reducible first | exact HB.out | apply below_alloc | apply pw_below_drewN | apply below_drew1) | exact HB.out)) hb); have n1_ := Aside0.mk (hbox); have n2_ := Aside0.mk ((by rw [hg]; exact (below_size (by repeat (first | (with_reducible first | exact HB.out | apply below_alloc | apply pw_below_drewN | apply below_drew1) | exact HB.out))) : w.heap.size ≤ gb387)); have n3_ := Aside0.mk ((by rw [hg]; exact (below_size (by repeat (first | (with_reducible first | exact HB.out | apply below_alloc | apply pw_below_drewN | apply below_drew1) | exact HB.out))) : w.heap.size ≤ gb387)); clear HB; have HB := n0_; have BK387 := n1_; have GW387 := n2_; have GE387 := n3_; clear n0_ n1_ n2_ n3_; clear hb hbox hg; have hcz10_0 : w9.cell? ⟨gb387, 0, none⟩ = some (.int .i64 a0_0) := (blk_cell BK387.out 0).trans rfl; have hcz10_1 : w9.cell? ⟨gb387, 1, none⟩ = some (.int .i64 a0_1) := (blk_cell BK387.out 1).trans rfl; have hcz10_2 : w9.cell? ⟨gb387, 2, none⟩ = some (.string a0_2) := (blk_cell BK387.out 2).trans rfl; have hfz10_0 := blk_frozen BK387.out 0; have hfz10_1 := blk_frozen BK387.out 1; have hfz10_2 := blk_frozen BK387.out 2))
    go_ret
    exact ⟨by first | rfl | (simp [errW_none, errW_some] <;> rfl) | (simp [*, errW_none, errW_some] <;> rfl), by repeat (first | (with_reducible first | exact HB.out | apply below_alloc | apply pw_below_drewN | apply below_drew1 | refine below_set ?_ GE387.out) | exact HB.out)⟩
  ·rw [if_neg c5] at H
   have c5b0 : (a0_0 == 2) = false := beq_eq_false_iff_ne.mpr c5
   have c5b1 : (a0_0 != 2) = true := bne_iff_ne.mpr c5
   by_cases c11 : a0_0 = 3
   ·rw [if_pos c11] at H
    have c11b0 : (a0_0 == 3) = true := beq_iff_eq.mpr c11
    have c11b1 : (a0_0 != 3) = false := bne_eq_false_iff_eq.mpr c11
    clear c11
    by_cases c12 : a0_1 ≥ 0
    ·rw [if_pos c12] at H
     have c12b0 : decide (0 ≤ a0_1) = true := decide_eq_true c12
     clear c12
     by_cases c13 : a0_1 < 8
     ·rw [if_pos c13] at H
      have c13b0 : decide (a0_1 < 8) = true := decide_eq_true c13
      clear c13
      obtain rfl := Option.some.inj H
      go_enter Try.func45, Try.ntmps45
      go_wp2_with (first | ((with_reducible refine gate_dst (N := 1) rfl ?_); (try (refine gate_guard (by rfl) ?_; dsimp only)); refine box_event ?hg (N := 1) ?hd (cs := #[.int .i64 a0_0, .int .i64 a0_1, .string a0_2]) (t := 79) ?hr ?_; (case hd => rfl); (case hg => rfl); (case hr => first | (go_simp; done) | (go_simp; rfl)); intro gb387 hg w14 hbox hb; have n0_ := Aside0.mk (below_step (by repeat (first | (with_reducible first | exact HB.out | apply below_alloc | apply pw_below_drewN | apply below_drew1) | exact HB.out)) hb); have n1_ := Aside0.mk (hbox); have n2_ := Aside0.mk ((by rw [hg]; exact (below_size (by repeat (first | (with_reducible first | exact HB.out | apply below_alloc | apply pw_below_drewN | apply below_drew1) | exact HB.out))) : w.heap.size ≤ gb387)); have n3_ := Aside0.mk ((by rw [hg]; exact (below_size (by repeat (first | (with_reducible first | exact HB.out | apply below_alloc | apply pw_below_drewN | apply below_drew1) | exact HB.out))) : w.heap.size ≤ gb387)); clear HB; have HB := n0_; have BK387 := n1_; have GW387 := n2_; have GE387 := n3_; clear n0_ n1_ n2_ n3_; clear hb hbox hg; have hcz15_0 : w14.cell? ⟨gb387, 0, none⟩ = some (.int .i64 a0_0) := (blk_cell BK387.out 0).trans rfl; have hcz15_1 : w14.cell? ⟨gb387, 1, none⟩ = some (.int .i64 a0_1) := (blk_cell BK387.out 1).trans rfl; have hcz15_2 : w14.cell? ⟨gb387, 2, none⟩ = some (.string a0_2) := (blk_cell BK387.out 2).trans rfl; have hfz15_0 := blk_frozen BK387.out 0; have hfz15_1 := blk_frozen BK387.out 1; have hfz15_2 := blk_frozen BK387.out 2))
      go_ret
      exact ⟨by first | rfl | (simp [errW_none, errW_some] <;> rfl) | (simp [*, errW_none, errW_some] <;> rfl), by repeat (first | (with_reducible first | exact HB.out | apply below_alloc | apply pw_below_drewN | apply below_drew1 | refine below_set ?_ GE387.out) | exact HB.out)⟩
     ·rw [if_neg c13] at H
      have c13b0 : decide (a0_1 < 8) = false := decide_eq_false c13
      clear c13
      obtain rfl := Option.some.inj H
      go_enter Try.func45, Try.ntmps45
      go_wp2_with (first | ((with_reducible refine gate_dst (N := 1) rfl ?_); (try (refine gate_guard (by rfl) ?_; dsimp only)); refine box_event ?hg (N := 1) ?hd (cs := #[.int .i64 a0_0, .int .i64 a0_1, .string a0_2]) (t := 79) ?hr ?_; (case hd => rfl); (case hg => rfl); (case hr => first | (go_simp; done) | (go_simp; rfl)); intro gb387 hg w16 hbox hb; have n0_ := Aside0.mk (below_step (by repeat (first | (with_reducible first | exact HB.out | apply below_alloc | apply pw_below_drewN | apply below_drew1) | exact HB.out)) hb); have n1_ := Aside0.mk (hbox); have n2_ := Aside0.mk ((by rw [hg]; exact (below_size (by repeat (first | (with_reducible first | exact HB.out | apply below_alloc | apply pw_below_drewN | apply below_drew1) | exact HB.out))) : w.heap.size ≤ gb387)); have n3_ := Aside0.mk ((by rw [hg]; exact (below_size (by repeat (first | (with_reducible first | exact HB.out | apply below_alloc | apply pw_below_drewN | apply below_drew1) | exact HB.out))) : w.heap.size ≤ gb387)); clear HB; have HB := n0_; have BK387 := n1_; have GW387 := n2_; have GE387 := n3_; clear n0_ n1_ n2_ n3_; clear hb hbox hg; have hcz17_0 : w16.cell? ⟨gb387, 0, none⟩ = some (.int .i64 a0_0) := (blk_cell BK387.out 0).trans rfl; have hcz17_1 : w16.cell? ⟨gb387, 1, none⟩ = some (.int .i64 a0_1) := (blk_cell BK387.out 1).trans rfl; have hcz17_2 : w16.cell? ⟨gb387, 2, none⟩ = some (.string a0_2) := (blk_cell BK387.out 2).trans rfl; have hfz17_0 := blk_frozen BK387.out 0; have hfz17_1 := blk_frozen BK387.out 1; have hfz17_2 := blk_frozen BK387.out 2))
      go_ret
      exact ⟨by first | rfl | (simp [errW_none, errW_some] <;> rfl) | (simp [*, errW_none, errW_some] <;> rfl), by repeat (first | (with_reducible first | exact HB.out | apply below_alloc | apply pw_below_drewN | apply below_drew1 | refine below_set ?_ GE387.out) | exact HB.out)⟩
    ·rw [if_neg c12] at H
     have c12b0 : decide (0 ≤ a0_1) = false := decide_eq_false c12
     clear c12
     obtain rfl := Option.some.inj H
     go_enter Try.func45, Try.ntmps45
     go_wp2_with (first | ((with_reducible refine gate_dst (N := 1) rfl ?_); (try (refine gate_guard (by rfl) ?_; dsimp only)); refine box_event ?hg (N := 1) ?hd (cs := #[.int .i64 a0_0, .int .i64 a0_1, .string a0_2]) (t := 79) ?hr ?_; (case hd => rfl); (case hg => rfl); (case hr => first | (go_simp; done) | (go_simp; rfl)); intro gb387 hg w18 hbox hb; have n0_ := Aside0.mk (below_step (by repeat (first | (with_reducible first | exact HB.out | apply below_alloc | apply pw_below_drewN | apply below_drew1) | exact HB.out)) hb); have n1_ := Aside0.mk (hbox); have n2_ := Aside0.mk ((by rw [hg]; exact (below_size (by repeat (first | (with_reducible first | exact HB.out | apply below_alloc | apply pw_below_drewN | apply below_drew1) | exact HB.out))) : w.heap.size ≤ gb387)); have n3_ := Aside0.mk ((by rw [hg]; exact (below_size (by repeat (first | (with_reducible first | exact HB.out | apply below_alloc | apply pw_below_drewN | apply below_drew1) | exact HB.out))) : w.heap.size ≤ gb387)); clear HB; have HB := n0_; have BK387 := n1_; have GW387 := n2_; have GE387 := n3_; clear n0_ n1_ n2_ n3_; clear hb hbox hg; have hcz19_0 : w18.cell? ⟨gb387, 0, none⟩ = some (.int .i64 a0_0) := (blk_cell BK387.out 0).trans rfl; have hcz19_1 : w18.cell? ⟨gb387, 1, none⟩ = some (.int .i64 a0_1) := (blk_cell BK387.out 1).trans rfl; have hcz19_2 : w18.cell? ⟨gb387, 2, none⟩ = some (.string a0_2) := (blk_cell BK387.out 2).trans rfl; have hfz19_0 := blk_frozen BK387.out 0; have hfz19_1 := blk_frozen BK387.out 1; have hfz19_2 := blk_frozen BK387.out 2))
     go_ret
     exact ⟨by first | rfl | (simp [errW_none, errW_some] <;> rfl) | (simp [*, errW_none, errW_some] <;> rfl), by repeat (first | (with_reducible first | exact HB.out | apply below_alloc | apply pw_below_drewN | apply below_drew1 | refine below_set ?_ GE387.out) | exact HB.out)⟩
   ·rw [if_neg c11] at H
    have c11b0 : (a0_0 == 3) = false := beq_eq_false_iff_ne.mpr c11
    have c11b1 : (a0_0 != 3) = true := bne_iff_ne.mpr c11
    replace H := Option.bind_eq_some_iff.mp H
    obtain ⟨t388, A200, H⟩ := H
    replace H : (if t388 ≥ 0 then (if a0_1 = 0 then (some (a0_2.toList == ([] : List UInt8))) else (some false)) else (some false)) = some r := H
    have A20 := Aside0.mk A200
    clear A200
    by_cases c21 : t388 ≥ 0
    ·rw [if_pos c21] at H
     have c21b0 : decide (0 ≤ t388) = true := decide_eq_true c21
     clear c21
     by_cases c22 : a0_1 = 0
     ·rw [if_pos c22] at H
      have c22b0 : (a0_1 == 0) = true := beq_iff_eq.mpr c22
      have c22b1 : (a0_1 != 0) = false := bne_eq_false_iff_eq.mpr c22
      clear c22
      obtain rfl := Option.some.inj H
      go_enter Try.func45, Try.ntmps45
      go_wp2_with (first | ((with_reducible refine gate_dst (N := 1) rfl ?_); (try (refine gate_guard (by rfl) ?_; dsimp only)); refine box_event ?hg (N := 1) ?hd (cs := #[.int .i64 a0_0, .int .i64 a0_1, .string a0_2]) (t := 79) ?hr ?_; (case hd => rfl); (case hg => rfl); (case hr => first | (go_simp; done) | (go_simp; rfl)); intro gb387 hg w23 hbox hb; have n0_ := Aside0.mk (below_step (by repeat (first | (with_reducible first | exact HB.out | apply below_alloc | apply pw_below_drewN | apply below_drew1) | exact HB.out)) hb); have n1_ := Aside0.mk (hbox); have n2_ := Aside0.mk ((by rw [hg]; exact (below_size (by repeat (first | (with_reducible first | exact HB.out | apply below_alloc | apply pw_below_drewN | apply below_drew1) | exact HB.out))) : w.heap.size ≤ gb387)); have n3_ := Aside0.mk ((by rw [hg]; exact (below_size (by repeat (first | (with_reducible first | exact HB.out | apply below_alloc | apply pw_below_drewN | apply below_drew1) | exact HB.out))) : w.heap.size ≤ gb387)); clear HB; have HB := n0_; have BK387 := n1_; have GW387 := n2_; have GE387 := n3_; clear n0_ n1_ n2_ n3_; clear hb hbox hg; have hcz24_0 : w23.cell? ⟨gb387, 0, none⟩ = some (.int .i64 a0_0) := (blk_cell BK387.out 0).trans rfl; have hcz24_1 : w23.cell? ⟨gb387, 1, none⟩ = some (.int .i64 a0_1) := (blk_cell BK387.out 1).trans rfl; have hcz24_2 : w23.cell? ⟨gb387, 2, none⟩ = some (.string a0_2) := (blk_cell BK387.out 2).trans rfl; have hfz24_0 := blk_frozen BK387.out 0; have hfz24_1 := blk_frozen BK387.out 1; have hfz24_2 := blk_frozen BK387.out 2) | ((with_reducible refine gate_callee (f := 46) rfl ?_); refine goesL_ (some 38) rfl rfl Try.func46 (by kernel_rfl) rfl #[.int .i64 a0_0] rfl (by (try simp only [List.map_toArray, List.map_cons, List.map_nil]); first | done | rfl | (simp only [List.length_drop, List.length_take]; rfl)) ?_; (with_reducible refine (expr_Takes.calls k a0_0 t388 _ A20.out).mono ?_); rintro e w' ⟨rfl, ⟨nd, rfl⟩⟩; refine ⟨_, rfl, ?_⟩))
      go_ret
      exact ⟨by first | rfl | (simp [errW_none, errW_some] <;> rfl) | (simp [*, errW_none, errW_some] <;> rfl), by repeat (first | (with_reducible first | exact HB.out | apply below_alloc | apply pw_below_drewN | apply below_drew1 | refine below_set ?_ GE387.out) | exact HB.out)⟩
     ·rw [if_neg c22] at H
      have c22b0 : (a0_1 == 0) = false := beq_eq_false_iff_ne.mpr c22
      have c22b1 : (a0_1 != 0) = true := bne_iff_ne.mpr c22
      obtain rfl := Option.some.inj H
      go_enter Try.func45, Try.ntmps45
      go_wp2_with (first | ((with_reducible refine gate_dst (N := 1) rfl ?_); (try (refine gate_guard (by rfl) ?_; dsimp only)); refine box_event ?hg (N := 1) ?hd (cs := #[.int .i64 a0_0, .int .i64 a0_1, .string a0_2]) (t := 79) ?hr ?_; (case hd => rfl); (case hg => rfl); (case hr => first | (go_simp; done) | (go_simp; rfl)); intro gb387 hg w25 hbox hb; have n0_ := Aside0.mk (below_step (by repeat (first | (with_reducible first | exact HB.out | apply below_alloc | apply pw_below_drewN | apply below_drew1) | exact HB.out)) hb); have n1_ := Aside0.mk (hbox); have n2_ := Aside0.mk ((by rw [hg]; exact (below_size (by repeat (first | (with_reducible first | exact HB.out | apply below_alloc | apply pw_below_drewN | apply below_drew1) | exact HB.out))) : w.heap.size ≤ gb387)); have n3_ := Aside0.mk ((by rw [hg]; exact (below_size (by repeat (first | (with_reducible first | exact HB.out | apply below_alloc | apply pw_below_drewN | apply below_drew1) | exact HB.out))) : w.heap.size ≤ gb387)); clear HB; have HB := n0_; have BK387 := n1_; have GW387 := n2_; have GE387 := n3_; clear n0_ n1_ n2_ n3_; clear hb hbox hg; have hcz26_0 : w25.cell? ⟨gb387, 0, none⟩ = some (.int .i64 a0_0) := (blk_cell BK387.out 0).trans rfl; have hcz26_1 : w25.cell? ⟨gb387, 1, none⟩ = some (.int .i64 a0_1) := (blk_cell BK387.out 1).trans rfl; have hcz26_2 : w25.cell? ⟨gb387, 2, none⟩ = some (.string a0_2) := (blk_cell BK387.out 2).trans rfl; have hfz26_0 := blk_frozen BK387.out 0; have hfz26_1 := blk_frozen BK387.out 1; have hfz26_2 := blk_frozen BK387.out 2) | ((with_reducible refine gate_callee (f := 46) rfl ?_); refine goesL_ (some 38) rfl rfl Try.func46 (by kernel_rfl) rfl #[.int .i64 a0_0] rfl (by (try simp only [List.map_toArray, List.map_cons, List.map_nil]); first | done | rfl | (simp only [List.length_drop, List.length_take]; rfl)) ?_; (with_reducible refine (expr_Takes.calls k a0_0 t388 _ A20.out).mono ?_); rintro e w' ⟨rfl, ⟨nd, rfl⟩⟩; refine ⟨_, rfl, ?_⟩))
      go_ret
      exact ⟨by first | rfl | (simp [errW_none, errW_some] <;> rfl) | (simp [*, errW_none, errW_some] <;> rfl), by repeat (first | (with_reducible first | exact HB.out | apply below_alloc | apply pw_below_drewN | apply below_drew1 | refine below_set ?_ GE387.out) | exact HB.out)⟩
    ·rw [if_neg c21] at H
     have c21b0 : decide (0 ≤ t388) = false := decide_eq_false c21
     clear c21
     obtain rfl := Option.some.inj H
     go_enter Try.func45, Try.ntmps45
     go_wp2_with (first | ((with_reducible refine gate_dst (N := 1) rfl ?_); (try (refine gate_guard (by rfl) ?_; dsimp only)); refine box_event ?hg (N := 1) ?hd (cs := #[.int .i64 a0_0, .int .i64 a0_1, .string a0_2]) (t := 79) ?hr ?_; (case hd => rfl); (case hg => rfl); (case hr => first | (go_simp; done) | (go_simp; rfl)); intro gb387 hg w27 hbox hb; have n0_ := Aside0.mk (below_step (by repeat (first | (with_reducible first | exact HB.out | apply below_alloc | apply pw_below_drewN | apply below_drew1) | exact HB.out)) hb); have n1_ := Aside0.mk (hbox); have n2_ := Aside0.mk ((by rw [hg]; exact (below_size (by repeat (first | (with_reducible first | exact HB.out | apply below_alloc | apply pw_below_drewN | apply below_drew1) | exact HB.out))) : w.heap.size ≤ gb387)); have n3_ := Aside0.mk ((by rw [hg]; exact (below_size (by repeat (first | (with_reducible first | exact HB.out | apply below_alloc | apply pw_below_drewN | apply below_drew1) | exact HB.out))) : w.heap.size ≤ gb387)); clear HB; have HB := n0_; have BK387 := n1_; have GW387 := n2_; have GE387 := n3_; clear n0_ n1_ n2_ n3_; clear hb hbox hg; have hcz28_0 : w27.cell? ⟨gb387, 0, none⟩ = some (.int .i64 a0_0) := (blk_cell BK387.out 0).trans rfl; have hcz28_1 : w27.cell? ⟨gb387, 1, none⟩ = some (.int .i64 a0_1) := (blk_cell BK387.out 1).trans rfl; have hcz28_2 : w27.cell? ⟨gb387, 2, none⟩ = some (.string a0_2) := (blk_cell BK387.out 2).trans rfl; have hfz28_0 := blk_frozen BK387.out 0; have hfz28_1 := blk_frozen BK387.out 1; have hfz28_2 := blk_frozen BK387.out 2) | ((with_reducible refine gate_callee (f := 46) rfl ?_); refine goesL_ (some 38) rfl rfl Try.func46 (by kernel_rfl) rfl #[.int .i64 a0_0] rfl (by (try simp only [List.map_toArray, List.map_cons, List.map_nil]); first | done | rfl | (simp only [List.length_drop, List.length_take]; rfl)) ?_; (with_reducible refine (expr_Takes.calls k a0_0 t388 _ A20.out).mono ?_); rintro e w' ⟨rfl, ⟨nd, rfl⟩⟩; refine ⟨_, rfl, ?_⟩))
     go_ret
     exact ⟨by first | rfl | (simp [errW_none, errW_some] <;> rfl) | (simp [*, errW_none, errW_some] <;> rfl), by repeat (first | (with_reducible first | exact HB.out | apply below_alloc | apply pw_below_drewN | apply below_drew1 | refine below_set ?_ GE387.out) | exact HB.out)⟩
def expr_Form.l0 : Nat → Int → List (S79) → Int → Int → Option (Int)
 | 0, _, _, _, _ => none
 | k + 1, x3, x9, x10, x11 => if x11 < x10 then (if 0 ≤ x11 then (if x11 < (x9.length : Int) then ((expr_word.f k ((rd_T79 x9 x11).f0) ((rd_T79 x9 x11).f1) ((rd_T79 x9 x11).f2)).bind fun t391 => (if t391 = true then ((expr_Takes.f k ((rd_T79 x9 x11).f0)).bind fun t392 => (if t392 > x3 then (some 18) else ((expr_Takes.f k ((rd_T79 x9 x11).f0)).bind fun t393 => (expr_Form.l0 k (wrap64 (x3 + (wrap64 (1 - t393)))) x9 x10 (wrap64 (x11 + 1)))))) else (some 18))) else (none)) else (none)) else (if x3 = 1 then (some 0) else (some 18))
def expr_Form.f (k : Nat) (l0 : List (S79)) : Option (Int) := if (l0.length : Int) > 64 then (some 6) else (expr_Form.l0 k 0 l0 (l0.length : Int) 0)
theorem expr_Form.mono_l : ∀ k, (∀ y0 y1 y2 y3, LeO (expr_Form.l0 k y0 y1 y2 y3) (expr_Form.l0 (k + 1) y0 y1 y2 y3))
 | 0 => fun _ _ _ _ r h => by simp [expr_Form.l0] at h
 | k + 1 => by
  have ih0 := expr_Form.mono_l k
  ·intro y0 y1 y2 y3
   unfold expr_Form.l0
   repeat' first
   | (with_reducible exact ih0 _ _ _ _)
   | (with_reducible exact expr_Takes.mono _ _)
   | (with_reducible exact expr_word.mono _ _ _ _)
   | (with_reducible exact LeO.refl _)
   | (with_reducible exact LeO.none _)
   | (with_reducible refine LeO.ite ?_ ?_)
   | (with_reducible refine LeO.bind ?_ (fun _ => ?_))
   | exact ih0 _ _ _ _
   | exact expr_Takes.mono _ _
   | exact expr_word.mono _ _ _ _
   | exact LeO.none _
   | refine LeO.ite ?_ ?_
   | refine LeO.bind ?_ (fun _ => ?_)
theorem expr_Form.mono : ∀ a0 k, LeO (expr_Form.f k a0) (expr_Form.f (k + 1) a0) := by
 intro a0 k
 have ih0 := expr_Form.mono_l k
 unfold expr_Form.f
 repeat' first
   | (with_reducible exact ih0 _ _ _ _)
   | (with_reducible exact expr_Takes.mono _ _)
   | (with_reducible exact expr_word.mono _ _ _ _)
   | (with_reducible exact LeO.refl _)
   | (with_reducible exact LeO.none _)
   | (with_reducible refine LeO.ite ?_ ?_)
   | (with_reducible refine LeO.bind ?_ (fun _ => ?_))
   | exact ih0 _ _ _ _
   | exact expr_Takes.mono _ _
   | exact expr_word.mono _ _ _ _
   | exact LeO.none _
   | refine LeO.ite ?_ ?_
   | refine LeO.bind ?_ (fun _ => ?_)
set_option maxHeartbeats 8000000 in
set_option maxRecDepth 100000 in
theorem expr_Form.calls (k : Nat) (A0 : Option Addr) (c0 : Nat) (l0 : List (S79)) (r : Int) (w : World) (hr0 : Kd.C k79 w A0 l0.length l0) (hc0 : l0.length ≤ c0) (h : expr_Form.f k l0 = some r) :
  Calls Try.prog 29 #[.slice A0 l0.length c0] w fun e w' => e = .returned (.int .i64 r) ∧ Below w.heap.size w w' := by
 have hu79 := Try.underlying79
 have HR0 := Aside0.mk hr0
 have HC0 := Aside0.mk hc0
 clear hr0 hc0
 have HB := Aside0.mk (Below.refl w.heap.size w)
 have H : (if (l0.length : Int) > 64 then (some 6) else (expr_Form.l0 k 0 l0 (l0.length : Int) 0)) = some r := h
 clear h
 by_cases c2 : (l0.length : Int) > 64
 ·rw [if_pos c2] at H
  have c2b0 : decide (64 < (l0.length : Int)) = true := decide_eq_true c2
  have c2b1 : decide (64 < l0.length) = true := decide_eq_true (by omega)
  clear c2
  obtain rfl := Option.some.inj H
  go_enter Try.func29, Try.ntmps29
  go_wp2
  go_ret
  exact ⟨by first | rfl | (simp [errW_none, errW_some] <;> rfl) | (simp [*, errW_none, errW_some] <;> rfl), by repeat (first | (with_reducible first | exact HB.out | apply below_alloc | apply pw_below_drewN | apply below_drew1) | exact HB.out)⟩
 ·rw [if_neg c2] at H
  have c2b0 : decide (64 < (l0.length : Int)) = false := decide_eq_false c2
  have c2b1 : decide (64 < l0.length) = false := decide_eq_false (by omega)
  clear c2
  have H' := Aside0.mk H
  clear H
  go_enter Try.func29, Try.ntmps29
  go_wp2
  go_loopg [3, 11] k (fun kq v3 v11 w' => ∃ (x3_1 : Int) (x11_1 : Int), v3 = .int .i64 x3_1 ∧ v11 = .int .i64 x11_1 ∧ Aside0 (expr_Form.l0 kq x3_1 l0 (l0.length : Int) x11_1 = some r) ∧ Aside0 (kq ≤ k) ∧ Aside0 (Below w.heap.size w w'))
  case atStart => exact ⟨(0), (0), (by first | rfl | (simp; done) | (simp [*]; done)), (by first | rfl | (simp; done) | (simp [*]; done)), H', ⟨Nat.le_refl _⟩, ⟨by repeat (first | (with_reducible first | exact HB.out | apply below_alloc | apply pw_below_drewN | apply below_drew1) | exact HB.out)⟩⟩
  case round =>
   clear H'
   try clear c2
   try clear c2b0
   try clear c2b1
   try clear p2
   obtain ⟨x3_1, x11_1, rfl, rfl, HA, HK1, HB⟩ := hrel
   cases gk with
   | zero => exact absurd HA.out (by simp [expr_Form.l0])
   | succ k1 =>
    have H := HA.out
    clear HA
    simp only [expr_Form.l0] at H
    by_cases c3 : x11_1 < (l0.length : Int)
    ·rw [if_pos c3] at H
     have c3b0 : decide (x11_1 < (l0.length : Int)) = true := decide_eq_true c3
     clear c3
     by_cases c4 : 0 ≤ x11_1
     ·rw [if_pos c4] at H
      have c4b0 : decide (0 ≤ x11_1) = true := decide_eq_true c4
      clear c4
      by_cases c5 : x11_1 < (l0.length : Int)
      ·rw [if_pos c5] at H
       have c5b0 : decide (x11_1 < (l0.length : Int)) = true := decide_eq_true c5
       clear c5
       replace H := Option.bind_eq_some_iff.mp H
       obtain ⟨t391, A60, H⟩ := H
       replace H : (if t391 = true then ((expr_Takes.f k1 ((rd_T79 l0 x11_1).f0)).bind fun t392 => (if t392 > x3_1 then (some 18) else ((expr_Takes.f k1 ((rd_T79 l0 x11_1).f0)).bind fun t393 => (expr_Form.l0 k1 (wrap64 (x3_1 + (wrap64 (1 - t393)))) l0 (l0.length : Int) (wrap64 (x11_1 + 1)))))) else (some 18)) = some r := H
       have A6 := Aside0.mk A60
       clear A60
       by_cases c7 : t391 = true
       ·subst c7
        have H1 : ((expr_Takes.f k1 ((rd_T79 l0 x11_1).f0)).bind fun t392 => (if t392 > x3_1 then (some 18) else ((expr_Takes.f k1 ((rd_T79 l0 x11_1).f0)).bind fun t393 => (expr_Form.l0 k1 (wrap64 (x3_1 + (wrap64 (1 - t393)))) l0 (l0.length : Int) (wrap64 (x11_1 + 1)))))) = some r := by rw [if_pos rfl] at H; exact H
        clear H
        have H := H1
        clear H1
        replace H := Option.bind_eq_some_iff.mp H
        obtain ⟨t392, A80, H⟩ := H
        replace H : (if t392 > x3_1 then (some 18) else ((expr_Takes.f k1 ((rd_T79 l0 x11_1).f0)).bind fun t393 => (expr_Form.l0 k1 (wrap64 (x3_1 + (wrap64 (1 - t393)))) l0 (l0.length : Int) (wrap64 (x11_1 + 1))))) = some r := H
        have A8 := Aside0.mk A80
        clear A80
        by_cases c9 : t392 > x3_1
        ·rw [if_pos c9] at H
         have c9b0 : decide (x3_1 < t392) = true := decide_eq_true c9
         clear c9
         obtain rfl := Option.some.inj H
         have p389 : 0 ≤ (x11_1 : Int) := of_decide_eq_true (by first | (with_reducible assumption) | assumption)
         have q389 : x11_1 < (l0.length : Int) := of_decide_eq_true (by first | (with_reducible assumption) | assumption)
         obtain ⟨ad389, e389, hx389_0, hx389_1, hx389_2⟩ := at_T79 HR0.out x11_1 p389 q389
         cases e389
         replace hx389_0 := (HB.out.cell (World.block_lt_of_cell? w _ hx389_0)).trans hx389_0
         replace hx389_1 := (HB.out.cell (World.block_lt_of_cell? w _ hx389_1)).trans hx389_1
         replace hx389_2 := (HB.out.cell (World.block_lt_of_cell? w _ hx389_2)).trans hx389_2
         replace p389 := eq_true p389
         replace q389 := eq_true q389
         go_wp2_with (first | ((with_reducible refine gate_dst (N := 5) rfl ?_); refine box_event ?hg (N := 5) ?hd (cs := #[.int .i64 0, .int .i64 0, .string (⟨#[]⟩ : ByteArray)]) (t := 79) ?hr ?_; (case hd => rfl); (case hg => rfl); (case hr => first | (go_simp; done) | (go_simp; rfl)); intro gb390 hg w10 hbox hb; have n0_ := Aside0.mk (below_step (by repeat (first | (with_reducible first | exact HB.out | apply below_alloc | apply pw_below_drewN | apply below_drew1) | exact HB.out)) hb); have n1_ := Aside0.mk (hbox); have n2_ := Aside0.mk ((by rw [hg]; exact (below_size (by repeat (first | (with_reducible first | exact HB.out | apply below_alloc | apply pw_below_drewN | apply below_drew1) | exact HB.out))) : w.heap.size ≤ gb390)); have n3_ := Aside0.mk ((by rw [hg]; exact (below_size (by repeat (first | (with_reducible first | exact HB.out | apply below_alloc | apply pw_below_drewN | apply below_drew1) | exact HB.out))) : w.heap.size ≤ gb390)); clear HB; have HB := n0_; have BK390 := n1_; have GW390 := n2_; have GE390 := n3_; clear n0_ n1_ n2_ n3_; clear hb hbox hg; have hcz11_0 : w10.cell? ⟨gb390, 0, none⟩ = some (.int .i64 0) := (blk_cell BK390.out 0).trans rfl; have hcz11_1 : w10.cell? ⟨gb390, 1, none⟩ = some (.int .i64 0) := (blk_cell BK390.out 1).trans rfl; have hcz11_2 : w10.cell? ⟨gb390, 2, none⟩ = some (.string (⟨#[]⟩ : ByteArray)) := (blk_cell BK390.out 2).trans rfl; have hfz11_0 := blk_frozen BK390.out 0; have hfz11_1 := blk_frozen BK390.out 1; have hfz11_2 := blk_frozen BK390.out 2) | ((with_reducible refine gate_callee (f := 45) rfl ?_); refine goesL_ (some 16) rfl rfl Try.func45 (by kernel_rfl) rfl #[.agg #[.int .i64 ((rd_T79 l0 x11_1).f0), .int .i64 ((rd_T79 l0 x11_1).f1), .string ((rd_T79 l0 x11_1).f2)]] rfl (by (try simp only [List.map_toArray, List.map_cons, List.map_nil]); first | done | rfl | (simp only [List.length_drop, List.length_take]; rfl)) ?_; (with_reducible refine (expr_word.calls k1 ((rd_T79 l0 x11_1).f0) ((rd_T79 l0 x11_1).f1) ((rd_T79 l0 x11_1).f2) true _ A6.out).mono ?_); rintro e w12 ⟨rfl, hb⟩; refine ⟨_, rfl, ?_⟩; have n0_ := Aside0.mk (blk_below (g := gb390) (o := .cells #[.int .i64 ((rd_T79 l0 x11_1).f0), .int .i64 ((rd_T79 l0 x11_1).f1), .string ((rd_T79 l0 x11_1).f2)] 79 (0, 0)) (by (with_reducible repeat (first | refine blk_drewN ?_ _ | refine blk_drew ?_ | refine blk_alloc ?_ _)); refine blk_put (cs := #[.int .i64 ((rd_T79 l0 x11_1).f0), .int .i64 ((rd_T79 l0 x11_1).f1), .string (⟨#[]⟩ : ByteArray)]) ?_ 2 _ rfl; (with_reducible repeat (first | refine blk_drewN ?_ _ | refine blk_drew ?_ | refine blk_alloc ?_ _)); refine blk_put (cs := #[.int .i64 ((rd_T79 l0 x11_1).f0), .int .i64 0, .string (⟨#[]⟩ : ByteArray)]) ?_ 1 _ rfl; (with_reducible repeat (first | refine blk_drewN ?_ _ | refine blk_drew ?_ | refine blk_alloc ?_ _)); refine blk_put (cs := #[.int .i64 0, .int .i64 0, .string (⟨#[]⟩ : ByteArray)]) ?_ 0 _ rfl; (with_reducible repeat (first | refine blk_drewN ?_ _ | refine blk_drew ?_ | refine blk_alloc ?_ _)); exact BK390.out) hb); have n1_ := Aside0.mk (below_step (by repeat (first | (with_reducible first | exact HB.out | apply below_alloc | apply pw_below_drewN | apply below_drew1 | refine below_set ?_ GE390.out) | exact HB.out)) hb); clear BK390; clear HB; have BK390 := n0_; have HB := n1_; clear n0_ n1_; (try clear hb); (try clear hb2); (try clear hk); (try clear hi); have hcz13_0 : w12.cell? ⟨gb390, 0, none⟩ = some (.int .i64 ((rd_T79 l0 x11_1).f0)) := (blk_cell BK390.out 0).trans rfl; have hcz13_1 : w12.cell? ⟨gb390, 1, none⟩ = some (.int .i64 ((rd_T79 l0 x11_1).f1)) := (blk_cell BK390.out 1).trans rfl; have hcz13_2 : w12.cell? ⟨gb390, 2, none⟩ = some (.string ((rd_T79 l0 x11_1).f2)) := (blk_cell BK390.out 2).trans rfl; have hfz13_0 := blk_frozen BK390.out 0; have hfz13_1 := blk_frozen BK390.out 1; have hfz13_2 := blk_frozen BK390.out 2) | (go_at_call 46; (with_reducible refine (expr_Takes.calls k1 ((rd_T79 l0 x11_1).f0) t392 _ A8.out).mono ?_); rintro e w' ⟨rfl, ⟨nd, rfl⟩⟩))
         go_ret
         exact ⟨by first | rfl | (simp [errW_none, errW_some] <;> rfl) | (simp [*, errW_none, errW_some] <;> rfl), by repeat (first | (with_reducible first | exact HB.out | apply below_alloc | apply pw_below_drewN | apply below_drew1 | refine below_set ?_ GE390.out) | exact HB.out)⟩
        ·rw [if_neg c9] at H
         have c9b0 : decide (x3_1 < t392) = false := decide_eq_false c9
         clear c9
         replace H := Option.bind_eq_some_iff.mp H
         obtain ⟨t393, A140, H⟩ := H
         replace H : (expr_Form.l0 k1 (wrap64 (x3_1 + (wrap64 (1 - t393)))) l0 (l0.length : Int) (wrap64 (x11_1 + 1))) = some r := H
         have A14 := Aside0.mk A140
         clear A140
         have H' := Aside0.mk H
         clear H
         have p389 : 0 ≤ (x11_1 : Int) := of_decide_eq_true (by first | (with_reducible assumption) | assumption)
         have q389 : x11_1 < (l0.length : Int) := of_decide_eq_true (by first | (with_reducible assumption) | assumption)
         obtain ⟨ad389, e389, hx389_0, hx389_1, hx389_2⟩ := at_T79 HR0.out x11_1 p389 q389
         cases e389
         replace hx389_0 := (HB.out.cell (World.block_lt_of_cell? w _ hx389_0)).trans hx389_0
         replace hx389_1 := (HB.out.cell (World.block_lt_of_cell? w _ hx389_1)).trans hx389_1
         replace hx389_2 := (HB.out.cell (World.block_lt_of_cell? w _ hx389_2)).trans hx389_2
         replace p389 := eq_true p389
         replace q389 := eq_true q389
         go_wp2_with (first | ((with_reducible refine gate_dst (N := 5) rfl ?_); refine box_event ?hg (N := 5) ?hd (cs := #[.int .i64 0, .int .i64 0, .string (⟨#[]⟩ : ByteArray)]) (t := 79) ?hr ?_; (case hd => rfl); (case hg => rfl); (case hr => first | (go_simp; done) | (go_simp; rfl)); intro gb390 hg w15 hbox hb; have n0_ := Aside0.mk (below_step (by repeat (first | (with_reducible first | exact HB.out | apply below_alloc | apply pw_below_drewN | apply below_drew1) | exact HB.out)) hb); have n1_ := Aside0.mk (hbox); have n2_ := Aside0.mk ((by rw [hg]; exact (below_size (by repeat (first | (with_reducible first | exact HB.out | apply below_alloc | apply pw_below_drewN | apply below_drew1) | exact HB.out))) : w.heap.size ≤ gb390)); have n3_ := Aside0.mk ((by rw [hg]; exact (below_size (by repeat (first | (with_reducible first | exact HB.out | apply below_alloc | apply pw_below_drewN | apply below_drew1) | exact HB.out))) : w.heap.size ≤ gb390)); clear HB; have HB := n0_; have BK390 := n1_; have GW390 := n2_; have GE390 := n3_; clear n0_ n1_ n2_ n3_; clear hb hbox hg; have hcz16_0 : w15.cell? ⟨gb390, 0, none⟩ = some (.int .i64 0) := (blk_cell BK390.out 0).trans rfl; have hcz16_1 : w15.cell? ⟨gb390, 1, none⟩ = some (.int .i64 0) := (blk_cell BK390.out 1).trans rfl; have hcz16_2 : w15.cell? ⟨gb390, 2, none⟩ = some (.string (⟨#[]⟩ : ByteArray)) := (blk_cell BK390.out 2).trans rfl; have hfz16_0 := blk_frozen BK390.out 0; have hfz16_1 := blk_frozen BK390.out 1; have hfz16_2 := blk_frozen BK390.out 2) | ((with_reducible refine gate_callee (f := 45) rfl ?_); refine goesL_ (some 16) rfl rfl Try.func45 (by kernel_rfl) rfl #[.agg #[.int .i64 ((rd_T79 l0 x11_1).f0), .int .i64 ((rd_T79 l0 x11_1).f1), .string ((rd_T79 l0 x11_1).f2)]] rfl (by (try simp only [List.map_toArray, List.map_cons, List.map_nil]); first | done | rfl | (simp only [List.length_drop, List.length_take]; rfl)) ?_; (with_reducible refine (expr_word.calls k1 ((rd_T79 l0 x11_1).f0) ((rd_T79 l0 x11_1).f1) ((rd_T79 l0 x11_1).f2) true _ A6.out).mono ?_); rintro e w17 ⟨rfl, hb⟩; refine ⟨_, rfl, ?_⟩; have n0_ := Aside0.mk (blk_below (g := gb390) (o := .cells #[.int .i64 ((rd_T79 l0 x11_1).f0), .int .i64 ((rd_T79 l0 x11_1).f1), .string ((rd_T79 l0 x11_1).f2)] 79 (0, 0)) (by (with_reducible repeat (first | refine blk_drewN ?_ _ | refine blk_drew ?_ | refine blk_alloc ?_ _)); refine blk_put (cs := #[.int .i64 ((rd_T79 l0 x11_1).f0), .int .i64 ((rd_T79 l0 x11_1).f1), .string (⟨#[]⟩ : ByteArray)]) ?_ 2 _ rfl; (with_reducible repeat (first | refine blk_drewN ?_ _ | refine blk_drew ?_ | refine blk_alloc ?_ _)); refine blk_put (cs := #[.int .i64 ((rd_T79 l0 x11_1).f0), .int .i64 0, .string (⟨#[]⟩ : ByteArray)]) ?_ 1 _ rfl; (with_reducible repeat (first | refine blk_drewN ?_ _ | refine blk_drew ?_ | refine blk_alloc ?_ _)); refine blk_put (cs := #[.int .i64 0, .int .i64 0, .string (⟨#[]⟩ : ByteArray)]) ?_ 0 _ rfl; (with_reducible repeat (first | refine blk_drewN ?_ _ | refine blk_drew ?_ | refine blk_alloc ?_ _)); exact BK390.out) hb); have n1_ := Aside0.mk (below_step (by repeat (first | (with_reducible first | exact HB.out | apply below_alloc | apply pw_below_drewN | apply below_drew1 | refine below_set ?_ GE390.out) | exact HB.out)) hb); clear BK390; clear HB; have BK390 := n0_; have HB := n1_; clear n0_ n1_; (try clear hb); (try clear hb2); (try clear hk); (try clear hi); have hcz18_0 : w17.cell? ⟨gb390, 0, none⟩ = some (.int .i64 ((rd_T79 l0 x11_1).f0)) := (blk_cell BK390.out 0).trans rfl; have hcz18_1 : w17.cell? ⟨gb390, 1, none⟩ = some (.int .i64 ((rd_T79 l0 x11_1).f1)) := (blk_cell BK390.out 1).trans rfl; have hcz18_2 : w17.cell? ⟨gb390, 2, none⟩ = some (.string ((rd_T79 l0 x11_1).f2)) := (blk_cell BK390.out 2).trans rfl; have hfz18_0 := blk_frozen BK390.out 0; have hfz18_1 := blk_frozen BK390.out 1; have hfz18_2 := blk_frozen BK390.out 2) | (go_at_call 46; (with_reducible refine (expr_Takes.calls k1 ((rd_T79 l0 x11_1).f0) t392 _ A8.out).mono ?_); rintro e w' ⟨rfl, ⟨nd, rfl⟩⟩) | ((with_reducible refine gate_callee (f := 46) rfl ?_); refine goesL_ (some 28) rfl rfl Try.func46 (by kernel_rfl) rfl #[.int .i64 ((rd_T79 l0 x11_1).f0)] rfl (by (try simp only [List.map_toArray, List.map_cons, List.map_nil]); first | done | rfl | (simp only [List.length_drop, List.length_take]; rfl)) ?_; (with_reducible refine (expr_Takes.calls k1 ((rd_T79 l0 x11_1).f0) t393 _ A14.out).mono ?_); rintro e w' ⟨rfl, ⟨nd, rfl⟩⟩; refine ⟨_, rfl, ?_⟩))
         go_roundg k1
         case measure => have := HK1.out; omega
         case rel => exact ⟨(wrap64 (x3_1 + (wrap64 (1 - t393)))), (wrap64 (x11_1 + 1)), (by first | rfl | (simp; done) | (simp [*]; done)), (by first | rfl | (simp; done) | (simp [*]; done)), H', ⟨by have := HK1.out; omega⟩, ⟨by repeat (first | (with_reducible first | exact HB.out | apply below_alloc | apply pw_below_drewN | apply below_drew1 | refine below_set ?_ GE390.out) | exact HB.out)⟩⟩
       ·replace c7 := Bool.eq_false_iff.mpr c7
        subst c7
        have H1 : (some 18) = some r := by rw [if_neg (show ¬ (false = true) by decide)] at H; exact H
        clear H
        have H := H1
        clear H1
        obtain rfl := Option.some.inj H
        have p389 : 0 ≤ (x11_1 : Int) := of_decide_eq_true (by first | (with_reducible assumption) | assumption)
        have q389 : x11_1 < (l0.length : Int) := of_decide_eq_true (by first | (with_reducible assumption) | assumption)
        obtain ⟨ad389, e389, hx389_0, hx389_1, hx389_2⟩ := at_T79 HR0.out x11_1 p389 q389
        cases e389
        replace hx389_0 := (HB.out.cell (World.block_lt_of_cell? w _ hx389_0)).trans hx389_0
        replace hx389_1 := (HB.out.cell (World.block_lt_of_cell? w _ hx389_1)).trans hx389_1
        replace hx389_2 := (HB.out.cell (World.block_lt_of_cell? w _ hx389_2)).trans hx389_2
        replace p389 := eq_true p389
        replace q389 := eq_true q389
        go_wp2_with (first | ((with_reducible refine gate_dst (N := 5) rfl ?_); refine box_event ?hg (N := 5) ?hd (cs := #[.int .i64 0, .int .i64 0, .string (⟨#[]⟩ : ByteArray)]) (t := 79) ?hr ?_; (case hd => rfl); (case hg => rfl); (case hr => first | (go_simp; done) | (go_simp; rfl)); intro gb390 hg w19 hbox hb; have n0_ := Aside0.mk (below_step (by repeat (first | (with_reducible first | exact HB.out | apply below_alloc | apply pw_below_drewN | apply below_drew1) | exact HB.out)) hb); have n1_ := Aside0.mk (hbox); have n2_ := Aside0.mk ((by rw [hg]; exact (below_size (by repeat (first | (with_reducible first | exact HB.out | apply below_alloc | apply pw_below_drewN | apply below_drew1) | exact HB.out))) : w.heap.size ≤ gb390)); have n3_ := Aside0.mk ((by rw [hg]; exact (below_size (by repeat (first | (with_reducible first | exact HB.out | apply below_alloc | apply pw_below_drewN | apply below_drew1) | exact HB.out))) : w.heap.size ≤ gb390)); clear HB; have HB := n0_; have BK390 := n1_; have GW390 := n2_; have GE390 := n3_; clear n0_ n1_ n2_ n3_; clear hb hbox hg; have hcz20_0 : w19.cell? ⟨gb390, 0, none⟩ = some (.int .i64 0) := (blk_cell BK390.out 0).trans rfl; have hcz20_1 : w19.cell? ⟨gb390, 1, none⟩ = some (.int .i64 0) := (blk_cell BK390.out 1).trans rfl; have hcz20_2 : w19.cell? ⟨gb390, 2, none⟩ = some (.string (⟨#[]⟩ : ByteArray)) := (blk_cell BK390.out 2).trans rfl; have hfz20_0 := blk_frozen BK390.out 0; have hfz20_1 := blk_frozen BK390.out 1; have hfz20_2 := blk_frozen BK390.out 2) | ((with_reducible refine gate_callee (f := 45) rfl ?_); refine goesL_ (some 16) rfl rfl Try.func45 (by kernel_rfl) rfl #[.agg #[.int .i64 ((rd_T79 l0 x11_1).f0), .int .i64 ((rd_T79 l0 x11_1).f1), .string ((rd_T79 l0 x11_1).f2)]] rfl (by (try simp only [List.map_toArray, List.map_cons, List.map_nil]); first | done | rfl | (simp only [List.length_drop, List.length_take]; rfl)) ?_; (with_reducible refine (expr_word.calls k1 ((rd_T79 l0 x11_1).f0) ((rd_T79 l0 x11_1).f1) ((rd_T79 l0 x11_1).f2) false _ A6.out).mono ?_); rintro e w21 ⟨rfl, hb⟩; refine ⟨_, rfl, ?_⟩; have n0_ := Aside0.mk (blk_below (g := gb390) (o := .cells #[.int .i64 ((rd_T79 l0 x11_1).f0), .int .i64 ((rd_T79 l0 x11_1).f1), .string ((rd_T79 l0 x11_1).f2)] 79 (0, 0)) (by (with_reducible repeat (first | refine blk_drewN ?_ _ | refine blk_drew ?_ | refine blk_alloc ?_ _)); refine blk_put (cs := #[.int .i64 ((rd_T79 l0 x11_1).f0), .int .i64 ((rd_T79 l0 x11_1).f1), .string (⟨#[]⟩ : ByteArray)]) ?_ 2 _ rfl; (with_reducible repeat (first | refine blk_drewN ?_ _ | refine blk_drew ?_ | refine blk_alloc ?_ _)); refine blk_put (cs := #[.int .i64 ((rd_T79 l0 x11_1).f0), .int .i64 0, .string (⟨#[]⟩ : ByteArray)]) ?_ 1 _ rfl; (with_reducible repeat (first | refine blk_drewN ?_ _ | refine blk_drew ?_ | refine blk_alloc ?_ _)); refine blk_put (cs := #[.int .i64 0, .int .i64 0, .string (⟨#[]⟩ : ByteArray)]) ?_ 0 _ rfl; (with_reducible repeat (first | refine blk_drewN ?_ _ | refine blk_drew ?_ | refine blk_alloc ?_ _)); exact BK390.out) hb); have n1_ := Aside0.mk (below_step (by repeat (first | (with_reducible first | exact HB.out | apply below_alloc | apply pw_below_drewN | apply below_drew1 | refine below_set ?_ GE390.out) | exact HB.out)) hb); clear BK390; clear HB; have BK390 := n0_; have HB := n1_; clear n0_ n1_; (try clear hb); (try clear hb2); (try clear hk); (try clear hi)))
        go_ret
        exact ⟨by first | rfl | (simp [errW_none, errW_some] <;> rfl) | (simp [*, errW_none, errW_some] <;> rfl), by repeat (first | (with_reducible first | exact HB.out | apply below_alloc | apply pw_below_drewN | apply below_drew1 | refine below_set ?_ GE390.out) | exact HB.out)⟩
      ·rw [if_neg c5] at H
       exact absurd H (by simp)
     ·rw [if_neg c4] at H
      exact absurd H (by simp)
    ·rw [if_neg c3] at H
     have c3b0 : decide (x11_1 < (l0.length : Int)) = false := decide_eq_false c3
     clear c3
     by_cases c22 : x3_1 = 1
     ·rw [if_pos c22] at H
      have c22b0 : (x3_1 == 1) = true := beq_iff_eq.mpr c22
      have c22b1 : (x3_1 != 1) = false := bne_eq_false_iff_eq.mpr c22
      clear c22
      obtain rfl := Option.some.inj H
      go_wp2
      go_ret
      exact ⟨by first | rfl | (simp [errW_none, errW_some] <;> rfl) | (simp [*, errW_none, errW_some] <;> rfl), by repeat (first | (with_reducible first | exact HB.out | apply below_alloc | apply pw_below_drewN | apply below_drew1) | exact HB.out)⟩
     ·rw [if_neg c22] at H
      have c22b0 : (x3_1 == 1) = false := beq_eq_false_iff_ne.mpr c22
      have c22b1 : (x3_1 != 1) = true := bne_iff_ne.mpr c22
      obtain rfl := Option.some.inj H
      go_wp2
      go_ret
      exact ⟨by first | rfl | (simp [errW_none, errW_some] <;> rfl) | (simp [*, errW_none, errW_some] <;> rfl), by repeat (first | (with_reducible first | exact HB.out | apply below_alloc | apply pw_below_drewN | apply below_drew1) | exact HB.out)⟩
def rescindref28_May.f (a0 : Int) (a1 : Int) : Option (Bool) := if a0 > 0 then (if a0 ≤ 1099511627776 then (if a1 > 0 then (some (decide (a1 ≤ 1099511627776))) else (some false)) else (some false)) else (some false)
set_option maxHeartbeats 8000000 in
set_option maxRecDepth 100000 in
theorem rescindref28_May.calls (a0 : Int) (a1 : Int) (r : Bool) (w : World) (h : rescindref28_May.f a0 a1 = some r) :
  Calls Try.prog 56 #[.int .i64 a0, .int .i64 a1] w fun e w' => e = .returned (.bool r) ∧ Drawn0 w w' := by
 have H : (if a0 > 0 then (if a0 ≤ 1099511627776 then (if a1 > 0 then (some (decide (a1 ≤ 1099511627776))) else (some false)) else (some false)) else (some false)) = some r := h
 clear h
 by_cases c3 : a0 > 0
 ·rw [if_pos c3] at H
  have c3b0 : decide (0 < a0) = true := decide_eq_true c3
  clear c3
  by_cases c4 : a0 ≤ 1099511627776
  ·rw [if_pos c4] at H
   have c4b0 : decide (a0 ≤ 1099511627776) = true := decide_eq_true c4
   clear c4
   by_cases c5 : a1 > 0
   ·rw [if_pos c5] at H
    have c5b0 : decide (0 < a1) = true := decide_eq_true c5
    clear c5
    obtain rfl := Option.some.inj H
    go_enter Try.func56, Try.ntmps56
    go_wp2
    go_ret
    exact ⟨by first | rfl | (simp; done) | (simp [*]; done), by repeat (first | exact Drawn0.refl _ | apply Drawn0.step)⟩
   ·rw [if_neg c5] at H
    have c5b0 : decide (0 < a1) = false := decide_eq_false c5
    clear c5
    obtain rfl := Option.some.inj H
    go_enter Try.func56, Try.ntmps56
    go_wp2
    go_ret
    exact ⟨by first | rfl | (simp; done) | (simp [*]; done), by repeat (first | exact Drawn0.refl _ | apply Drawn0.step)⟩
  ·rw [if_neg c4] at H
   have c4b0 : decide (a0 ≤ 1099511627776) = false := decide_eq_false c4
   clear c4
   obtain rfl := Option.some.inj H
   go_enter Try.func56, Try.ntmps56
   go_wp2
   go_ret
   exact ⟨by first | rfl | (simp; done) | (simp [*]; done), by repeat (first | exact Drawn0.refl _ | apply Drawn0.step)⟩
 ·rw [if_neg c3] at H
  have c3b0 : decide (0 < a0) = false := decide_eq_false c3
  clear c3
  obtain rfl := Option.some.inj H
  go_enter Try.func56, Try.ntmps56
  go_wp2
  go_ret
  exact ⟨by first | rfl | (simp; done) | (simp [*]; done), by repeat (first | exact Drawn0.refl _ | apply Drawn0.step)⟩
end Go.Proofs.Ytpidiibhgfjemaa.PLg
end
section
namespace Go.Proofs.Ytpidiibhgfjemaa.PLg
open Go.RowKit Go.Proofs.YtpidiibhgfjemaaW.PrintWords Go.Proofs.YtpidiibhgfjemaaW.PrintLast Go.Proofs.YtpidiibhgfjemaaW.PrintMore
attribute [local go_sem] max2_int min2_int max_two min_two max_three min_three max_four min_four
set_option linter.unusedVariables false
set_option linter.unusedSimpArgs false
def rescindref30_May.f (a0_0 : Int) (a0_1 : Int) (a0_2 : Int) : Option (Bool) := if a0_0 = 2 then ((rescindref28_May.f a0_1 a0_2).bind fun t409 => (some t409)) else (if a0_2 = 0 then (if a0_0 = 1 then (if a0_1 = 0 then (some true) else (if a0_0 = 3 then (if a0_1 > 0 then (some (decide (a0_1 ≤ 64))) else (some false)) else (some false))) else (if a0_0 = 3 then (if a0_1 > 0 then (some (decide (a0_1 ≤ 64))) else (some false)) else (some false))) else (some false))
set_option maxHeartbeats 8000000 in
set_option maxRecDepth 100000 in
theorem rescindref30_May.calls (a0_0 : Int) (a0_1 : Int) (a0_2 : Int) (r : Bool) (w : World) (h : rescindref30_May.f a0_0 a0_1 a0_2 = some r) :
  Calls Try.prog 50 #[.agg #[.int .i64 a0_0, .int .i64 a0_1, .int .i64 a0_2]] w fun e w' => e = .returned (.bool r) ∧ Below w.heap.size w w' := by
 have hu34 := Try.underlying34
 have HB := Aside0.mk (Below.refl w.heap.size w)
 have H : (if a0_0 = 2 then ((rescindref28_May.f a0_1 a0_2).bind fun t409 => (some t409)) else (if a0_2 = 0 then (if a0_0 = 1 then (if a0_1 = 0 then (some true) else (if a0_0 = 3 then (if a0_1 > 0 then (some (decide (a0_1 ≤ 64))) else (some false)) else (some false))) else (if a0_0 = 3 then (if a0_1 > 0 then (some (decide (a0_1 ≤ 64))) else (some false)) else (some false))) else (some false))) = some r := h
 clear h
 by_cases c2 : a0_0 = 2
 ·rw [if_pos c2] at H
  have c2b0 : (a0_0 == 2) = true := beq_iff_eq.mpr c2
  have c2b1 : (a0_0 != 2) = false := bne_eq_false_iff_eq.mpr c2
  clear c2
  replace H := Option.bind_eq_some_iff.mp H
  obtain ⟨t409, A30, H⟩ := H
  replace H : (some t409) = some r := H
  have A3 := Aside0.mk A30
  clear A30
  obtain rfl := Option.some.inj H
  go_enter Try.func50, Try.ntmps50
  go_wp2_with (first | ((with_reducible refine gate_dst (N := 1) rfl ?_); refine box_event ?hg (N := 1) ?hd (cs := #[.int .i64 a0_0, .int .i64 a0_1, .int .i64 a0_2]) (t := 34) ?hr ?_; (case hd => rfl); (case hg => rfl); (case hr => first | (go_simp; done) | (go_simp; rfl)); intro gb408 hg w4 hbox hb; have n0_ := Aside0.mk (below_step (by repeat (first | (with_reducible first | exact HB.out | apply below_alloc | apply pw_below_drewN | apply below_drew1) | exact HB.out)) hb); have n1_ := Aside0.mk (hbox); have n2_ := Aside0.mk ((by rw [hg]; exact (below_size (by repeat (first | (with_reducible first | exact HB.out | apply below_alloc | apply pw_below_drewN | apply below_drew1) | exact HB.out))) : w.heap.size ≤ gb408)); have n3_ := Aside0.mk ((by rw [hg]; exact (below_size (by repeat (first | (with_reducible first | exact HB.out | apply below_alloc | apply pw_below_drewN | apply below_drew1) | exact HB.out))) : w.heap.size ≤ gb408)); clear HB; have HB := n0_; have BK408 := n1_; have GW408 := n2_; have GE408 := n3_; clear n0_ n1_ n2_ n3_; clear hb hbox hg; have hcz5_0 : w4.cell? ⟨gb408, 0, none⟩ = some (.int .i64 a0_0) := (blk_cell BK408.out 0).trans rfl; have hcz5_1 : w4.cell? ⟨gb408, 1, none⟩ = some (.int .i64 a0_1) := (blk_cell BK408.out 1).trans rfl; have hcz5_2 : w4.cell? ⟨gb408, 2, none⟩ = some (.int .i64 a0_2) := (blk_cell BK408.out 2).trans rfl; have hfz5_0 := blk_frozen BK408.out 0; have hfz5_1 := blk_frozen BK408.out 1; have hfz5_2 := blk_frozen BK408.out 2) | ((with_reducible refine gate_callee (f := 56) rfl ?_); refine goesL_ (some 10) rfl rfl Try.func56 (by kernel_rfl) rfl #[.int .i64 a0_1, .int .i64 a0_2] rfl (by (try simp only [List.map_toArray, List.map_cons, List.map_nil]); first | done | rfl | (simp only [List.length_drop, List.length_take]; rfl)) ?_; (with_reducible refine (rescindref28_May.calls a0_1 a0_2 t409 _ A3.out).mono ?_); rintro e w' ⟨rfl, ⟨nd, rfl⟩⟩; refine ⟨_, rfl, ?_⟩))
  go_ret
  exact ⟨by first | rfl | (simp [errW_none, errW_some] <;> rfl) | (simp [*, errW_none, errW_some] <;> rfl), by repeat (first | (with_reducible first | exact HB.out | apply below_alloc | apply pw_below_drewN | apply below_drew1 | refine below_set ?_ GE408.out) | exact HB.out)⟩
 ·rw [if_neg c2] at H
  have c2b0 : (a0_0 == 2) = false := beq_eq_false_iff_ne.mpr c2
  have c2b1 : (a0_0 != 2) = true := bne_iff_ne.mpr c2
  by_cases c6 : a0_2 = 0
  ·rw [if_pos c6] at H
   have c6b0 : (a0_2 == 0) = true := beq_iff_eq.mpr c6
   have c6b1 : (a0_2 != 0) = false := bne_eq_false_iff_eq.mpr c6
   clear c6
   by_cases c7 : a0_0 = 1
   ·rw [if_pos c7] at H
    have c7b0 : (a0_0 == 1) = true := beq_iff_eq.mpr c7
    have c7b1 : (a0_0 != 1) = false := bne_eq_false_iff_eq.mpr c7
    clear c7
    by_cases c8 : a0_1 = 0
    ·rw [if_pos c8] at H
     have c8b0 : (a0_1 == 0) = true := beq_iff_eq.mpr c8
     have c8b1 : (a0_1 != 0) = false := bne_eq_false_iff_eq.mpr c8
     clear c8
     obtain rfl := Option.some.inj H
     go_enter Try.func50, Try.ntmps50
     go_wp2_with (first | ((with_reducible refine gate_dst (N := 1) rfl ?_); refine box_event ?hg (N := 1) ?hd (cs := #[.int .i64 a0_0, .int .i64 a0_1, .int .i64 a0_2]) (t := 34) ?hr ?_; (case hd => rfl); (case hg => rfl); (case hr => first | (go_simp; done) | (go_simp; rfl)); intro gb408 hg w9 hbox hb; have n0_ := Aside0.mk (below_step (by repeat (first | (with_reducible first | exact HB.out | apply below_alloc | apply pw_below_drewN | apply below_drew1) | exact HB.out)) hb); have n1_ := Aside0.mk (hbox); have n2_ := Aside0.mk ((by rw [hg]; exact (below_size (by repeat (first | (with_reducible first | exact HB.out | apply below_alloc | apply pw_below_drewN | apply below_drew1) | exact HB.out))) : w.heap.size ≤ gb408)); have n3_ := Aside0.mk ((by rw [hg]; exact (below_size (by repeat (first | (with_reducible first | exact HB.out | apply below_alloc | apply pw_below_drewN | apply below_drew1) | exact HB.out))) : w.heap.size ≤ gb408)); clear HB; have HB := n0_; have BK408 := n1_; have GW408 := n2_; have GE408 := n3_; clear n0_ n1_ n2_ n3_; clear hb hbox hg; have hcz10_0 : w9.cell? ⟨gb408, 0, none⟩ = some (.int .i64 a0_0) := (blk_cell BK408.out 0).trans rfl; have hcz10_1 : w9.cell? ⟨gb408, 1, none⟩ = some (.int .i64 a0_1) := (blk_cell BK408.out 1).trans rfl; have hcz10_2 : w9.cell? ⟨gb408, 2, none⟩ = some (.int .i64 a0_2) := (blk_cell BK408.out 2).trans rfl; have hfz10_0 := blk_frozen BK408.out 0; have hfz10_1 := blk_frozen BK408.out 1; have hfz10_2 := blk_frozen BK408.out 2))
     go_ret
     exact ⟨by first | rfl | (simp [errW_none, errW_some] <;> rfl) | (simp [*, errW_none, errW_some] <;> rfl), by repeat (first | (with_reducible first | exact HB.out | apply below_alloc | apply pw_below_drewN | apply below_drew1 | refine below_set ?_ GE408.out) | exact HB.out)⟩
    ·rw [if_neg c8] at H
     have c8b0 : (a0_1 == 0) = false := beq_eq_false_iff_ne.mpr c8
     have c8b1 : (a0_1 != 0) = true := bne_iff_ne.mpr c8
     by_cases c11 : a0_0 = 3
     ·rw [if_pos c11] at H
      have c11b0 : (a0_0 == 3) = true := beq_iff_eq.mpr c11
      have c11b1 : (a0_0 != 3) = false := bne_eq_false_iff_eq.mpr c11
      clear c11
      by_cases c12 : a0_1 > 0
      ·rw [if_pos c12] at H
       have c12b0 : decide (0 < a0_1) = true := decide_eq_true c12
       clear c12
       obtain rfl := Option.some.inj H
       go_enter Try.func50, Try.ntmps50
       go_wp2_with (first | ((with_reducible refine gate_dst (N := 1) rfl ?_); refine box_event ?hg (N := 1) ?hd (cs := #[.int .i64 a0_0, .int .i64 a0_1, .int .i64 a0_2]) (t := 34) ?hr ?_; (case hd => rfl); (case hg => rfl); (case hr => first | (go_simp; done) | (go_simp; rfl)); intro gb408 hg w13 hbox hb; have n0_ := Aside0.mk (below_step (by repeat (first | (with_reducible first | exact HB.out | apply below_alloc | apply pw_below_drewN | apply below_drew1) | exact HB.out)) hb); have n1_ := Aside0.mk (hbox); have n2_ := Aside0.mk ((by rw [hg]; exact (below_size (by repeat (first | (with_reducible first | exact HB.out | apply below_alloc | apply pw_below_drewN | apply below_drew1) | exact HB.out))) : w.heap.size ≤ gb408)); have n3_ := Aside0.mk ((by rw [hg]; exact (below_size (by repeat (first | (with_reducible first | exact HB.out | apply below_alloc | apply pw_below_drewN | apply below_drew1) | exact HB.out))) : w.heap.size ≤ gb408)); clear HB; have HB := n0_; have BK408 := n1_; have GW408 := n2_; have GE408 := n3_; clear n0_ n1_ n2_ n3_; clear hb hbox hg; have hcz14_0 : w13.cell? ⟨gb408, 0, none⟩ = some (.int .i64 a0_0) := (blk_cell BK408.out 0).trans rfl; have hcz14_1 : w13.cell? ⟨gb408, 1, none⟩ = some (.int .i64 a0_1) := (blk_cell BK408.out 1).trans rfl; have hcz14_2 : w13.cell? ⟨gb408, 2, none⟩ = some (.int .i64 a0_2) := (blk_cell BK408.out 2).trans rfl; have hfz14_0 := blk_frozen BK408.out 0; have hfz14_1 := blk_frozen BK408.out 1; have hfz14_2 := blk_frozen BK408.out 2))
       go_ret
       exact ⟨by first | rfl | (simp [errW_none, errW_some] <;> rfl) | (simp [*, errW_none, errW_some] <;> rfl), by repeat (first | (with_reducible first | exact HB.out | apply below_alloc | apply pw_below_drewN | apply below_drew1 | refine below_set ?_ GE408.out) | exact HB.out)⟩
      ·rw [if_neg c12] at H
       have c12b0 : decide (0 < a0_1) = false := decide_eq_false c12
       clear c12
       obtain rfl := Option.some.inj H
       go_enter Try.func50, Try.ntmps50
       go_wp2_with (first | ((with_reducible refine gate_dst (N := 1) rfl ?_); refine box_event ?hg (N := 1) ?hd (cs := #[.int .i64 a0_0, .int .i64 a0_1, .int .i64 a0_2]) (t := 34) ?hr ?_; (case hd => rfl); (case hg => rfl); (case hr => first | (go_simp; done) | (go_simp; rfl)); intro gb408 hg w15 hbox hb; have n0_ := Aside0.mk (below_step (by repeat (first | (with_reducible first | exact HB.out | apply below_alloc | apply pw_below_drewN | apply below_drew1) | exact HB.out)) hb); have n1_ := Aside0.mk (hbox); have n2_ := Aside0.mk ((by rw [hg]; exact (below_size (by repeat (first | (with_reducible first | exact HB.out | apply below_alloc | apply pw_below_drewN | apply below_drew1) | exact HB.out))) : w.heap.size ≤ gb408)); have n3_ := Aside0.mk ((by rw [hg]; exact (below_size (by repeat (first | (with_reducible first | exact HB.out | apply below_alloc | apply pw_below_drewN | apply below_drew1) | exact HB.out))) : w.heap.size ≤ gb408)); clear HB; have HB := n0_; have BK408 := n1_; have GW408 := n2_; have GE408 := n3_; clear n0_ n1_ n2_ n3_; clear hb hbox hg; have hcz16_0 : w15.cell? ⟨gb408, 0, none⟩ = some (.int .i64 a0_0) := (blk_cell BK408.out 0).trans rfl; have hcz16_1 : w15.cell? ⟨gb408, 1, none⟩ = some (.int .i64 a0_1) := (blk_cell BK408.out 1).trans rfl; have hcz16_2 : w15.cell? ⟨gb408, 2, none⟩ = some (.int .i64 a0_2) := (blk_cell BK408.out 2).trans rfl; have hfz16_0 := blk_frozen BK408.out 0; have hfz16_1 := blk_frozen BK408.out 1; have hfz16_2 := blk_frozen BK408.out 2))
       go_ret
       exact ⟨by first | rfl | (simp [errW_none, errW_some] <;> rfl) | (simp [*, errW_none, errW_some] <;> rfl), by repeat (first | (with_reducible first | exact HB.out | apply below_alloc | apply pw_below_drewN | apply below_drew1 | refine below_set ?_ GE408.out) | exact HB.out)⟩
     ·rw [if_neg c11] at H
      have c11b0 : (a0_0 == 3) = false := beq_eq_false_iff_ne.mpr c11
      have c11b1 : (a0_0 != 3) = true := bne_iff_ne.mpr c11
      obtain rfl := Option.some.inj H
      go_enter Try.func50, Try.ntmps50
      go_wp2_with (first | ((with_reducible refine gate_dst (N := 1) rfl ?_); refine box_event ?hg (N := 1) ?hd (cs := #[.int .i64 a0_0, .int .i64 a0_1, .int .i64 a0_2]) (t := 34) ?hr ?_; (case hd => rfl); (case hg => rfl); (case hr => first | (go_simp; done) | (go_simp; rfl)); intro gb408 hg w17 hbox hb; have n0_ := Aside0.mk (below_step (by repeat (first | (with_reducible first | exact HB.out | apply below_alloc | apply pw_below_drewN | apply below_drew1) | exact HB.out)) hb); have n1_ := Aside0.mk (hbox); have n2_ := Aside0.mk ((by rw [hg]; exact (below_size (by repeat (first | (with_reducible first | exact HB.out | apply below_alloc | apply pw_below_drewN | apply below_drew1) | exact HB.out))) : w.heap.size ≤ gb408)); have n3_ := Aside0.mk ((by rw [hg]; exact (below_size (by repeat (first | (with_reducible first | exact HB.out | apply below_alloc | apply pw_below_drewN | apply below_drew1) | exact HB.out))) : w.heap.size ≤ gb408)); clear HB; have HB := n0_; have BK408 := n1_; have GW408 := n2_; have GE408 := n3_; clear n0_ n1_ n2_ n3_; clear hb hbox hg; have hcz18_0 : w17.cell? ⟨gb408, 0, none⟩ = some (.int .i64 a0_0) := (blk_cell BK408.out 0).trans rfl; have hcz18_1 : w17.cell? ⟨gb408, 1, none⟩ = some (.int .i64 a0_1) := (blk_cell BK408.out 1).trans rfl; have hcz18_2 : w17.cell? ⟨gb408, 2, none⟩ = some (.int .i64 a0_2) := (blk_cell BK408.out 2).trans rfl; have hfz18_0 := blk_frozen BK408.out 0; have hfz18_1 := blk_frozen BK408.out 1; have hfz18_2 := blk_frozen BK408.out 2))
      go_ret
      exact ⟨by first | rfl | (simp [errW_none, errW_some] <;> rfl) | (simp [*, errW_none, errW_some] <;> rfl), by repeat (first | (with_reducible first | exact HB.out | apply below_alloc | apply pw_below_drewN | apply below_drew1 | refine below_set ?_ GE408.out) | exact HB.out)⟩
   ·rw [if_neg c7] at H
    have c7b0 : (a0_0 == 1) = false := beq_eq_false_iff_ne.mpr c7
    have c7b1 : (a0_0 != 1) = true := bne_iff_ne.mpr c7
    by_cases c19 : a0_0 = 3
    ·rw [if_pos c19] at H
     have c19b0 : (a0_0 == 3) = true := beq_iff_eq.mpr c19
     have c19b1 : (a0_0 != 3) = false := bne_eq_false_iff_eq.mpr c19
     clear c19
     by_cases c20 : a0_1 > 0
     ·rw [if_pos c20] at H
      have c20b0 : decide (0 < a0_1) = true := decide_eq_true c20
      clear c20
      obtain rfl := Option.some.inj H
      go_enter Try.func50, Try.ntmps50
      go_wp2_with (first | ((with_reducible refine gate_dst (N := 1) rfl ?_); refine box_event ?hg (N := 1) ?hd (cs := #[.int .i64 a0_0, .int .i64 a0_1, .int .i64 a0_2]) (t := 34) ?hr ?_; (case hd => rfl); (case hg => rfl); (case hr => first | (go_simp; done) | (go_simp; rfl)); intro gb408 hg w21 hbox hb; have n0_ := Aside0.mk (below_step (by repeat (first | (with_reducible first | exact HB.out | apply below_alloc | apply pw_below_drewN | apply below_drew1) | exact HB.out)) hb); have n1_ := Aside0.mk (hbox); have n2_ := Aside0.mk ((by rw [hg]; exact (below_size (by repeat (first | (with_reducible first | exact HB.out | apply below_alloc | apply pw_below_drewN | apply below_drew1) | exact HB.out))) : w.heap.size ≤ gb408)); have n3_ := Aside0.mk ((by rw [hg]; exact (below_size (by repeat (first | (with_reducible first | exact HB.out | apply below_alloc | apply pw_below_drewN | apply below_drew1) | exact HB.out))) : w.heap.size ≤ gb408)); clear HB; have HB := n0_; have BK408 := n1_; have GW408 := n2_; have GE408 := n3_; clear n0_ n1_ n2_ n3_; clear hb hbox hg; have hcz22_0 : w21.cell? ⟨gb408, 0, none⟩ = some (.int .i64 a0_0) := (blk_cell BK408.out 0).trans rfl; have hcz22_1 : w21.cell? ⟨gb408, 1, none⟩ = some (.int .i64 a0_1) := (blk_cell BK408.out 1).trans rfl; have hcz22_2 : w21.cell? ⟨gb408, 2, none⟩ = some (.int .i64 a0_2) := (blk_cell BK408.out 2).trans rfl; have hfz22_0 := blk_frozen BK408.out 0; have hfz22_1 := blk_frozen BK408.out 1; have hfz22_2 := blk_frozen BK408.out 2))
      go_ret
      exact ⟨by first | rfl | (simp [errW_none, errW_some] <;> rfl) | (simp [*, errW_none, errW_some] <;> rfl), by repeat (first | (with_reducible first | exact HB.out | apply below_alloc | apply pw_below_drewN | apply below_drew1 | refine below_set ?_ GE408.out) | exact HB.out)⟩
     ·rw [if_neg c20] at H
      have c20b0 : decide (0 < a0_1) = false := decide_eq_false c20
      clear c20
      obtain rfl := Option.some.inj H
      go_enter Try.func50, Try.ntmps50
      go_wp2_with (first | ((with_reducible refine gate_dst (N := 1) rfl ?_); refine box_event ?hg (N := 1) ?hd (cs := #[.int .i64 a0_0, .int .i64 a0_1, .int .i64 a0_2]) (t := 34) ?hr ?_; (case hd => rfl); (case hg => rfl); (case hr => first | (go_simp; done) | (go_simp; rfl)); intro gb408 hg w23 hbox hb; have n0_ := Aside0.mk (below_step (by repeat (first | (with_reducible first | exact HB.out | apply below_alloc | apply pw_below_drewN | apply below_drew1) | exact HB.out)) hb); have n1_ := Aside0.mk (hbox); have n2_ := Aside0.mk ((by rw [hg]; exact (below_size (by repeat (first | (with_reducible first | exact HB.out | apply below_alloc | apply pw_below_drewN | apply below_drew1) | exact HB.out))) : w.heap.size ≤ gb408)); have n3_ := Aside0.mk ((by rw [hg]; exact (below_size (by repeat (first | (with_reducible first | exact HB.out | apply below_alloc | apply pw_below_drewN | apply below_drew1) | exact HB.out))) : w.heap.size ≤ gb408)); clear HB; have HB := n0_; have BK408 := n1_; have GW408 := n2_; have GE408 := n3_; clear n0_ n1_ n2_ n3_; clear hb hbox hg; have hcz24_0 : w23.cell? ⟨gb408, 0, none⟩ = some (.int .i64 a0_0) := (blk_cell BK408.out 0).trans rfl; have hcz24_1 : w23.cell? ⟨gb408, 1, none⟩ = some (.int .i64 a0_1) := (blk_cell BK408.out 1).trans rfl; have hcz24_2 : w23.cell? ⟨gb408, 2, none⟩ = some (.int .i64 a0_2) := (blk_cell BK408.out 2).trans rfl; have hfz24_0 := blk_frozen BK408.out 0; have hfz24_1 := blk_frozen BK408.out 1; have hfz24_2 := blk_frozen BK408.out 2))
      go_ret
      exact ⟨by first | rfl | (simp [errW_none, errW_some] <;> rfl) | (simp [*, errW_none, errW_some] <;> rfl), by repeat (first | (with_reducible first | exact HB.out | apply below_alloc | apply pw_below_drewN | apply below_drew1 | refine below_set ?_ GE408.out) | exact HB.out)⟩
    ·rw [if_neg c19] at H
     have c19b0 : (a0_0 == 3) = false := beq_eq_false_iff_ne.mpr c19
     have c19b1 : (a0_0 != 3) = true := bne_iff_ne.mpr c19
     obtain rfl := Option.some.inj H
     go_enter Try.func50, Try.ntmps50
     go_wp2_with (first | ((with_reducible refine gate_dst (N := 1) rfl ?_); refine box_event ?hg (N := 1) ?hd (cs := #[.int .i64 a0_0, .int .i64 a0_1, .int .i64 a0_2]) (t := 34) ?hr ?_; (case hd => rfl); (case hg => rfl); (case hr => first | (go_simp; done) | (go_simp; rfl)); intro gb408 hg w25 hbox hb; have n0_ := Aside0.mk (below_step (by repeat (first | (with_reducible first | exact HB.out | apply below_alloc | apply pw_below_drewN | apply below_drew1) | exact HB.out)) hb); have n1_ := Aside0.mk (hbox); have n2_ := Aside0.mk ((by rw [hg]; exact (below_size (by repeat (first | (with_reducible first | exact HB.out | apply below_alloc | apply pw_below_drewN | apply below_drew1) | exact HB.out))) : w.heap.size ≤ gb408)); have n3_ := Aside0.mk ((by rw [hg]; exact (below_size (by repeat (first | (with_reducible first | exact HB.out | apply below_alloc | apply pw_below_drewN | apply below_drew1) | exact HB.out))) : w.heap.size ≤ gb408)); clear HB; have HB := n0_; have BK408 := n1_; have GW408 := n2_; have GE408 := n3_; clear n0_ n1_ n2_ n3_; clear hb hbox hg; have hcz26_0 : w25.cell? ⟨gb408, 0, none⟩ = some (.int .i64 a0_0) := (blk_cell BK408.out 0).trans rfl; have hcz26_1 : w25.cell? ⟨gb408, 1, none⟩ = some (.int .i64 a0_1) := (blk_cell BK408.out 1).trans rfl; have hcz26_2 : w25.cell? ⟨gb408, 2, none⟩ = some (.int .i64 a0_2) := (blk_cell BK408.out 2).trans rfl; have hfz26_0 := blk_frozen BK408.out 0; have hfz26_1 := blk_frozen BK408.out 1; have hfz26_2 := blk_frozen BK408.out 2))
     go_ret
     exact ⟨by first | rfl | (simp [errW_none, errW_some] <;> rfl) | (simp [*, errW_none, errW_some] <;> rfl), by repeat (first | (with_reducible first | exact HB.out | apply below_alloc | apply pw_below_drewN | apply below_drew1 | refine below_set ?_ GE408.out) | exact HB.out)⟩
  ·rw [if_neg c6] at H
   have c6b0 : (a0_2 == 0) = false := beq_eq_false_iff_ne.mpr c6
   have c6b1 : (a0_2 != 0) = true := bne_iff_ne.mpr c6
   obtain rfl := Option.some.inj H
   go_enter Try.func50, Try.ntmps50
   go_wp2_with (first | ((with_reducible refine gate_dst (N := 1) rfl ?_); refine box_event ?hg (N := 1) ?hd (cs := #[.int .i64 a0_0, .int .i64 a0_1, .int .i64 a0_2]) (t := 34) ?hr ?_; (case hd => rfl); (case hg => rfl); (case hr => first | (go_simp; done) | (go_simp; rfl)); intro gb408 hg w27 hbox hb; have n0_ := Aside0.mk (below_step (by repeat (first | (with_reducible first | exact HB.out | apply below_alloc | apply pw_below_drewN | apply below_drew1) | exact HB.out)) hb); have n1_ := Aside0.mk (hbox); have n2_ := Aside0.mk ((by rw [hg]; exact (below_size (by repeat (first | (with_reducible first | exact HB.out | apply below_alloc | apply pw_below_drewN | apply below_drew1) | exact HB.out))) : w.heap.size ≤ gb408)); have n3_ := Aside0.mk ((by rw [hg]; exact (below_size (by repeat (first | (with_reducible first | exact HB.out | apply below_alloc | apply pw_below_drewN | apply below_drew1) | exact HB.out))) : w.heap.size ≤ gb408)); clear HB; have HB := n0_; have BK408 := n1_; have GW408 := n2_; have GE408 := n3_; clear n0_ n1_ n2_ n3_; clear hb hbox hg; have hcz28_0 : w27.cell? ⟨gb408, 0, none⟩ = some (.int .i64 a0_0) := (blk_cell BK408.out 0).trans rfl; have hcz28_1 : w27.cell? ⟨gb408, 1, none⟩ = some (.int .i64 a0_1) := (blk_cell BK408.out 1).trans rfl; have hcz28_2 : w27.cell? ⟨gb408, 2, none⟩ = some (.int .i64 a0_2) := (blk_cell BK408.out 2).trans rfl; have hfz28_0 := blk_frozen BK408.out 0; have hfz28_1 := blk_frozen BK408.out 1; have hfz28_2 := blk_frozen BK408.out 2))
   go_ret
   exact ⟨by first | rfl | (simp [errW_none, errW_some] <;> rfl) | (simp [*, errW_none, errW_some] <;> rfl), by repeat (first | (with_reducible first | exact HB.out | apply below_alloc | apply pw_below_drewN | apply below_drew1 | refine below_set ?_ GE408.out) | exact HB.out)⟩
end Go.Proofs.Ytpidiibhgfjemaa.PLg
end
section
namespace Go.Proofs.Ytpidiibhgfjemaa.PLg
open Go.RowKit Go.Proofs.YtpidiibhgfjemaaW.PrintWords Go.Proofs.YtpidiibhgfjemaaW.PrintLast Go.Proofs.YtpidiibhgfjemaaW.PrintMore
attribute [local go_sem] max2_int min2_int max_two min_two max_three min_three max_four min_four
set_option linter.unusedVariables false
set_option linter.unusedSimpArgs false
end Go.Proofs.Ytpidiibhgfjemaa.PLg
end
section
namespace Go.Proofs.Ytpidiibhgfjemaa.PLg
open Go.RowKit Go.Proofs.YtpidiibhgfjemaaW.PrintWords Go.Proofs.YtpidiibhgfjemaaW.PrintLast Go.Proofs.YtpidiibhgfjemaaW.PrintMore
attribute [local go_sem] max2_int min2_int max_two min_two max_three min_three max_four min_four
set_option linter.unusedVariables false
set_option linter.unusedSimpArgs false
end Go.Proofs.Ytpidiibhgfjemaa.PLg
end
section
namespace Go.Proofs.Ytpidiibhgfjemaa.PLg
open Go.RowKit Go.Proofs.YtpidiibhgfjemaaW.PrintWords Go.Proofs.YtpidiibhgfjemaaW.PrintLast Go.Proofs.YtpidiibhgfjemaaW.PrintMore
attribute [local go_sem] max2_int min2_int max_two min_two max_three min_three max_four min_four
set_option linter.unusedVariables false
set_option linter.unusedSimpArgs false
end Go.Proofs.Ytpidiibhgfjemaa.PLg
end
section
namespace Go.Proofs.Ytpidiibhgfjemaa.PLh
open Go.Proofs.Ytpidiibhgfjemaa.PLg
open Go.RowKit Go.Proofs.YtpidiibhgfjemaaW.PrintWords Go.Proofs.YtpidiibhgfjemaaW.PrintLast Go.Proofs.YtpidiibhgfjemaaW.PrintMore
def spanB (n : Int) : Bool := decide (n ≥ 1) && decide (n ≤ 1099511627776)
theorem check1_calls (n : Int) (w : World) : Calls Try.prog 53 #[.int .i64 n] w fun e w' => e = .returned (.bool (spanB n)) ∧ Below w.heap.size w w' := by
 by_cases h : n ≥ 1
 ·have e : spanB n = decide (n ≤ 1099511627776) := by unfold spanB; rw [decide_eq_true h]; rfl
  rw [e]
  have b0 : decide (n ≥ 1) = true := decide_eq_true h
  clear h e
  go_enter Try.func53, Try.ntmps53
  go_wp2
  go_ret
  exact ⟨rfl, Below.refl _ _⟩
 ·have e : spanB n = false := by unfold spanB; rw [decide_eq_false h]; rfl
  rw [e]
  have b0 : decide (n ≥ 1) = false := decide_eq_false h
  clear h e
  go_enter Try.func53, Try.ntmps53
  go_wp2
  go_ret
  exact ⟨rfl, Below.refl _ _⟩
def chkS (k s h : Int) : Bool := if k = 1 then s == 0 && h == 0 else if k = 2 then spanB s && spanB h else if k = 3 then decide (s ≥ 1) && decide (s ≤ 64) && h == 0 else false
def window_Check.f (a0_0 a0_1 a0_2 : Int) : Option Int := some (if chkS a0_0 a0_1 a0_2 = true then 0 else 2)
set_option maxHeartbeats 2000000 in
set_option maxRecDepth 100000 in
theorem window_Check_any (k s h : Int) (b : Bool) (hb : chkS k s h = b) (w : World) :
  Calls Try.prog 34 #[.agg #[.int .i64 k, .int .i64 s, .int .i64 h]] w fun e w' => e = .returned (.int .i64 (if b = true then 0 else 2)) ∧ Below w.heap.size w w' := by
 have HB := Lib.hid (Below.alloc (Below.refl w.heap.size w) (Nat.le_refl _) (.cells #[.int .i64 k, .int .i64 s, .int .i64 h] 34 (0, 0)))
 have K2 := Lib.hid ((blk_cell (blk_new w (.cells #[.int .i64 k, .int .i64 s, .int .i64 h] 34 (0, 0))) 2).trans rfl : (w.alloc (.cells #[.int .i64 k, .int .i64 s, .int .i64 h] 34 (0, 0))).cell? ⟨w.heap.size, 2, none⟩ = some (.int .i64 h))
 have hu := Try.underlying34
 have C := Lib.hid check1_calls
 unfold chkS at hb
 by_cases k1 : k = 1
 ·subst k1
  rw [if_pos rfl] at hb
  by_cases s0 : s = 0
  ·subst s0
   by_cases h0 : h = 0
   ·subst h0
    obtain rfl : true = b := hb
    go_enter Try.func34, Try.ntmps34
    go_wp2
    go_ret
    exact ⟨rfl, HB⟩
   ·have b0 : (h == 0) = false := beq_eq_false_iff_ne.mpr h0
    obtain rfl : false = b := by rw [← hb, b0]; rfl
    clear hb h0
    go_enter Try.func34, Try.ntmps34
    go_wp2
    go_ret
    exact ⟨rfl, HB⟩
  ·have b0 : (s == 0) = false := beq_eq_false_iff_ne.mpr s0
   obtain rfl : false = b := by rw [← hb, b0]; rfl
   clear hb s0
   go_enter Try.func34, Try.ntmps34
   go_wp2
   go_ret
   exact ⟨rfl, HB⟩
 rw [if_neg k1] at hb
 have b1 : (k == 1) = false := beq_eq_false_iff_ne.mpr k1
 by_cases k2 : k = 2
 ·subst k2
  rw [if_pos rfl] at hb
  have C1 := Lib.hid fun w => C.out s w
  have C2 := Lib.hid fun w => C.out h w
  clear C b1 k1
  cases hs : spanB s
  ·rw [hs] at C1 hb
   obtain rfl : false = b := hb
   clear hs C2
   go_enter Try.func34, Try.ntmps34
   go_wp2_with (((with_reducible refine (C1.out _).mono ?_); rintro e w' ⟨rfl, hb1⟩))
   go_ret
   exact ⟨rfl, HB.out.trans (hb1.mono (by simp))⟩
  ·rw [hs] at C1 hb
   obtain rfl : spanB h = b := hb
   clear hs
   generalize spanB h = b at *
   go_enter Try.func34, Try.ntmps34
   cases b
   ·go_wp2_with (first | (((with_reducible refine (C1.out _).mono ?_); clear C1; rintro e w1 ⟨rfl, hb1⟩; have H1 := Lib.hid hb1; have z2 := (hb1.cell (p := ⟨w.heap.size, 2, none⟩) (by simp)).trans K2.out; clear hb1)) | (((with_reducible refine (C2.out _).mono ?_); rintro e w2 ⟨rfl, hb2⟩; have H2 := Lib.hid hb2; clear hb2)))
    go_ret
    exact ⟨rfl, (HB.out.trans (H1.out.mono (by simp))).trans (H2.out.mono (by have := H1.out.size; simp at this; omega))⟩
   ·go_wp2_with (first | (((with_reducible refine (C1.out _).mono ?_); clear C1; rintro e w1 ⟨rfl, hb1⟩; have H1 := Lib.hid hb1; have z2 := (hb1.cell (p := ⟨w.heap.size, 2, none⟩) (by simp)).trans K2.out; clear hb1)) | (((with_reducible refine (C2.out _).mono ?_); rintro e w2 ⟨rfl, hb2⟩; have H2 := Lib.hid hb2; clear hb2)))
    go_ret
    exact ⟨rfl, (HB.out.trans (H1.out.mono (by simp))).trans (H2.out.mono (by have := H1.out.size; simp at this; omega))⟩
 rw [if_neg k2] at hb
 have b2 : (k == 2) = false := beq_eq_false_iff_ne.mpr k2
 by_cases k3 : k = 3
 ·subst k3
  rw [if_pos rfl] at hb
  by_cases s1 : s ≥ 1
  ·have c1 : decide (s ≥ 1) = true := decide_eq_true s1
   by_cases s2 : s ≤ 64
   ·have c2 : decide (s ≤ 64) = true := decide_eq_true s2
    by_cases h0 : h = 0
    ·subst h0
     obtain rfl : true = b := by rw [← hb, c1, c2]; rfl
     clear hb s1 s2
     go_enter Try.func34, Try.ntmps34
     go_wp2
     go_ret
     exact ⟨rfl, HB⟩
    ·have b0 : (h == 0) = false := beq_eq_false_iff_ne.mpr h0
     obtain rfl : false = b := by rw [← hb, c1, c2, b0]; rfl
     clear hb s1 s2 h0
     go_enter Try.func34, Try.ntmps34
     go_wp2
     go_ret
     exact ⟨rfl, HB⟩
   ·have c2 : decide (s ≤ 64) = false := decide_eq_false s2
    obtain rfl : false = b := by rw [← hb, c1, c2]; rfl
    clear hb s1 s2
    go_enter Try.func34, Try.ntmps34
    go_wp2
    go_ret
    exact ⟨rfl, HB⟩
  ·have c1 : decide (s ≥ 1) = false := decide_eq_false s1
   obtain rfl : false = b := by rw [← hb, c1]; rfl
   clear hb s1
   go_enter Try.func34, Try.ntmps34
   go_wp2
   go_ret
   exact ⟨rfl, HB⟩
 rw [if_neg k3] at hb
 have b3 : (k == 3) = false := beq_eq_false_iff_ne.mpr k3
 obtain rfl : false = b := hb
 clear k1 k2 k3
 go_enter Try.func34, Try.ntmps34
 go_wp2
 go_ret
 exact ⟨rfl, HB⟩
theorem window_Check.calls (a0_0 a0_1 a0_2 : Int) (r : Int) (w : World) (h : window_Check.f a0_0 a0_1 a0_2 = some r) :
  Calls Try.prog 34 #[.agg #[.int .i64 a0_0, .int .i64 a0_1, .int .i64 a0_2]] w fun e w' => e = .returned (.int .i64 r) ∧ Below w.heap.size w w' := by
 obtain rfl := Option.some.inj h
 exact window_Check_any a0_0 a0_1 a0_2 _ rfl w
end Go.Proofs.Ytpidiibhgfjemaa.PLh
end
section
namespace Go.Proofs.Ytpidiibhgfjemaa.PLh
open Go.Proofs.Ytpidiibhgfjemaa.PLg
open Go.RowKit Go.Proofs.YtpidiibhgfjemaaW.PrintWords Go.Proofs.YtpidiibhgfjemaaW.PrintLast Go.Proofs.YtpidiibhgfjemaaW.PrintMore
theorem ix_mem_take {α : Type} (l : List α) (k : Nat) (h : k < l.length) (x : α) : x ∈ l.take (k + 1) ↔ x ∈ l.take k ∨ x = l[k] := by
 rw [List.take_add_one, List.getElem?_eq_getElem h, List.mem_append]
 simp only [Option.toList_some, List.mem_singleton]
theorem ix_at_int {w : World} {A : Option Addr} {xs : List Int} (h : Kd.C (Kd.int .i64) w A xs.length xs) (k : Nat) (hk : k < xs.length) : ∃ ad, A = some ad ∧ w.cell? (ad.add k) = some (.int .i64 xs[k]) := by
 obtain ⟨_, _, h2⟩ := h
 obtain ⟨ad, e, h3⟩ := h2 (by omega)
 obtain ⟨c, hl, hk', hc⟩ := h3 k xs[k] (List.getElem?_eq_getElem hk)
 refine ⟨ad, e, ?_⟩
 have h4 : c = [.int .i64 xs[k]] := hk'
 have := hc 0 (.int .i64 xs[k]) (by rw [h4]; rfl)
 rwa [show k * (Kd.int .i64).sz + 0 = k from by show k * 1 + 0 = k; omega] at this
theorem ix_at_str {w : World} {A : Option Addr} {xs : List ByteArray} (h : Kd.C Kd.string w A xs.length xs) (k : Nat) (hk : k < xs.length) : ∃ ad, A = some ad ∧ w.cell? (ad.add k) = some (.string xs[k]) := by
 obtain ⟨_, _, h2⟩ := h
 obtain ⟨ad, e, h3⟩ := h2 (by omega)
 obtain ⟨c, hl, hk', hc⟩ := h3 k xs[k] (List.getElem?_eq_getElem hk)
 refine ⟨ad, e, ?_⟩
 have h4 : c = [.string xs[k]] := hk'
 have := hc 0 (.string xs[k]) (by rw [h4]; rfl)
 rwa [show k * Kd.string.sz + 0 = k from by show k * 1 + 0 = k; omega] at this
set_option maxHeartbeats 800000 in
set_option maxRecDepth 100000 in
theorem ix_int (p : Int → Bool) (fn : Nat) (A0 : Option Addr) (c0 : Nat) (l : List Int) (w : World)
  (hp : ∀ (x : Int) (w1 : World), x ∈ l → Below w.heap.size w w1 → Calls Try.prog fn #[.int .i64 x] w1 fun e w' => e = .returned (.bool (p x)) ∧ Below w1.heap.size w1 w')
  (hfn : ∀ args w, (callFunc fn args).run Try.prog w = .ok (.enter fn args) w) (hr0 : Kd.C (Kd.int .i64) w A0 l.length l) (hl : l.length ≤ 1000) :
  Calls Try.prog 44 #[.slice A0 l.length c0, .func (Fn.func fn) #[] #[]] w fun e w' => (∃ r : Int, e = .returned (.int .i64 r) ∧ decide (0 ≤ r) = l.any p) ∧ Below w.heap.size w w' := by
 have HR := Aside0.mk hr0
 have HP := Lib.hid hp
 clear hr0 hp
 go_enter Try.func44, Try.ntmps44
 go_wp2
 go_loopw [8] (fun v8 wr => ∃ k : Nat, k ≤ l.length ∧ v8 = .int .i64 (k : Int) ∧ Aside0 (∀ x ∈ l.take k, p x = false) ∧ Aside0 (Below w.heap.size w wr)) (fun v8 wr => l.length - (intOf v8).toNat)
 case atStart => exact ⟨0, by omega, rfl, ⟨by simp⟩, ⟨Below.refl _ _⟩⟩
 case round =>
  obtain ⟨k, hk, rfl, HN, HB⟩ := hrel
  by_cases c : k < l.length
  ·obtain ⟨X, hX⟩ : ∃ X, l[k] = X := ⟨_, rfl⟩
   obtain ⟨ad, e1, hx0⟩ := ix_at_int (Kd.C_below HR.out HB.out) k c
   rw [hX] at hx0
   cases e1
   have P := Lib.hid (fun w1 hb => HP.out X w1 (by rw [← hX]; exact List.getElem_mem c) hb)
   have HX := Lib.hid hX
   clear hX
   cases hpx : p X
   ·have P2 := Lib.hid (fun w1 hb => by have := P.out w1 hb; rw [hpx] at this; exact this)
    have HPX := Lib.hid hpx
    clear P hpx
    go_wp2_with ((with_reducible refine (P2.out _ HB.out).mono ?_); rintro e w' ⟨rfl, hb⟩)
    go_roundw
    case rel =>
     refine ⟨k + 1, by omega, by go_num, ⟨fun x hx => ?_⟩, ⟨HB.out.trans (hb.mono HB.out.size)⟩⟩
     have hx' := (ix_mem_take l k c x).1 hx
     cases hx' with
     | inl h => exact HN.out x h
     | inr h => rw [h, HX]; exact HPX
    case measure => simp [intOf]; omega
   ·have P2 := Lib.hid (fun w1 hb => by have := P.out w1 hb; rw [hpx] at this; exact this)
    have hany : l.any p = true := by
     rw [List.any_eq_true]
     exact ⟨X, by rw [← HX.out]; exact List.getElem_mem c, hpx⟩
    have HANY := Lib.hid hany
    clear P hpx hany
    go_wp2_with ((with_reducible refine (P2.out _ HB.out).mono ?_); rintro e w' ⟨rfl, hb⟩)
    go_ret
    exact ⟨⟨k, rfl, by rw [HANY.out]; simp⟩, HB.out.trans (hb.mono HB.out.size)⟩
  ·obtain rfl : k = l.length := by omega
   have hany : l.any p = false := by
    rw [List.any_eq_false]
    intro x hx
    have := HN.out x (by rw [List.take_length]; exact hx)
    simp [this]
   have HANY := Lib.hid hany
   clear hany
   go_wp2
   go_ret
   exact ⟨⟨-1, rfl, by rw [HANY.out]; rfl⟩, HB.out⟩
set_option maxHeartbeats 800000 in
set_option maxRecDepth 100000 in
theorem ix_intc (p : Int → Bool) (fn : Nat) (cp : Value) (A0 : Option Addr) (c0 : Nat) (l : List Int) (w : World)
  (hp : ∀ (x : Int) (w1 : World), x ∈ l → Below w.heap.size w w1 → Calls Try.prog fn #[.int .i64 x, cp] w1 fun e w' => e = .returned (.bool (p x)) ∧ Below w1.heap.size w1 w')
  (hfn : ∀ args w, (callFunc fn args).run Try.prog w = .ok (.enter fn args) w) (hr0 : Kd.C (Kd.int .i64) w A0 l.length l) (hl : l.length ≤ 1000) :
  Calls Try.prog 44 #[.slice A0 l.length c0, .func (Fn.func fn) #[] #[cp]] w fun e w' => (∃ r : Int, e = .returned (.int .i64 r) ∧ decide (0 ≤ r) = l.any p) ∧ Below w.heap.size w w' := by
 have HR := Aside0.mk hr0
 have HP := Lib.hid hp
 clear hr0 hp
 go_enter Try.func44, Try.ntmps44
 go_wp2
 go_loopw [8] (fun v8 wr => ∃ k : Nat, k ≤ l.length ∧ v8 = .int .i64 (k : Int) ∧ Aside0 (∀ x ∈ l.take k, p x = false) ∧ Aside0 (Below w.heap.size w wr)) (fun v8 wr => l.length - (intOf v8).toNat)
 case atStart => exact ⟨0, by omega, rfl, ⟨by simp⟩, ⟨Below.refl _ _⟩⟩
 case round =>
  obtain ⟨k, hk, rfl, HN, HB⟩ := hrel
  by_cases c : k < l.length
  ·obtain ⟨X, hX⟩ : ∃ X, l[k] = X := ⟨_, rfl⟩
   obtain ⟨ad, e1, hx0⟩ := ix_at_int (Kd.C_below HR.out HB.out) k c
   rw [hX] at hx0
   cases e1
   have P := Lib.hid (fun w1 hb => HP.out X w1 (by rw [← hX]; exact List.getElem_mem c) hb)
   have HX := Lib.hid hX
   clear hX
   cases hpx : p X
   ·have P2 := Lib.hid (fun w1 hb => by have := P.out w1 hb; rw [hpx] at this; exact this)
    have HPX := Lib.hid hpx
    clear P hpx
    go_wp2_with ((with_reducible refine (P2.out _ HB.out).mono ?_); rintro e w' ⟨rfl, hb⟩)
    go_roundw
    case rel =>
     refine ⟨k + 1, by omega, by go_num, ⟨fun x hx => ?_⟩, ⟨HB.out.trans (hb.mono HB.out.size)⟩⟩
     have hx' := (ix_mem_take l k c x).1 hx
     cases hx' with
     | inl h => exact HN.out x h
     | inr h => rw [h, HX]; exact HPX
    case measure => simp [intOf]; omega
   ·have P2 := Lib.hid (fun w1 hb => by have := P.out w1 hb; rw [hpx] at this; exact this)
    have hany : l.any p = true := by
     rw [List.any_eq_true]
     exact ⟨X, by rw [← HX.out]; exact List.getElem_mem c, hpx⟩
    have HANY := Lib.hid hany
    clear P hpx hany
    go_wp2_with ((with_reducible refine (P2.out _ HB.out).mono ?_); rintro e w' ⟨rfl, hb⟩)
    go_ret
    exact ⟨⟨k, rfl, by rw [HANY.out]; simp⟩, HB.out.trans (hb.mono HB.out.size)⟩
  ·obtain rfl : k = l.length := by omega
   have hany : l.any p = false := by
    rw [List.any_eq_false]
    intro x hx
    have := HN.out x (by rw [List.take_length]; exact hx)
    simp [this]
   have HANY := Lib.hid hany
   clear hany
   go_wp2
   go_ret
   exact ⟨⟨-1, rfl, by rw [HANY.out]; rfl⟩, HB.out⟩
set_option maxHeartbeats 800000 in
set_option maxRecDepth 100000 in
theorem ix_strc (p : ByteArray → Bool) (fn : Nat) (cp : Value) (A0 : Option Addr) (c0 : Nat) (l : List ByteArray) (w : World)
  (hp : ∀ (x : ByteArray) (w1 : World), x ∈ l → Below w.heap.size w w1 → Calls Try.prog fn #[.string x, cp] w1 fun e w' => e = .returned (.bool (p x)) ∧ Below w1.heap.size w1 w')
  (hfn : ∀ args w, (callFunc fn args).run Try.prog w = .ok (.enter fn args) w) (hr0 : Kd.C Kd.string w A0 l.length l) (hl : l.length ≤ 1000) :
  Calls Try.prog 54 #[.slice A0 l.length c0, .func (Fn.func fn) #[] #[cp]] w fun e w' => (∃ r : Int, e = .returned (.int .i64 r) ∧ decide (0 ≤ r) = l.any p) ∧ Below w.heap.size w w' := by
 have HR := Aside0.mk hr0
 have HP := Lib.hid hp
 clear hr0 hp
 go_enter Try.func54, Try.ntmps54
 go_wp2
 go_loopw [8] (fun v8 wr => ∃ k : Nat, k ≤ l.length ∧ v8 = .int .i64 (k : Int) ∧ Aside0 (∀ x ∈ l.take k, p x = false) ∧ Aside0 (Below w.heap.size w wr)) (fun v8 wr => l.length - (intOf v8).toNat)
 case atStart => exact ⟨0, by omega, rfl, ⟨by simp⟩, ⟨Below.refl _ _⟩⟩
 case round =>
  obtain ⟨k, hk, rfl, HN, HB⟩ := hrel
  by_cases c : k < l.length
  ·obtain ⟨X, hX⟩ : ∃ X, l[k] = X := ⟨_, rfl⟩
   obtain ⟨ad, e1, hx0⟩ := ix_at_str (Kd.C_below HR.out HB.out) k c
   rw [hX] at hx0
   cases e1
   have P := Lib.hid (fun w1 hb => HP.out X w1 (by rw [← hX]; exact List.getElem_mem c) hb)
   have HX := Lib.hid hX
   clear hX
   cases hpx : p X
   ·have P2 := Lib.hid (fun w1 hb => by have := P.out w1 hb; rw [hpx] at this; exact this)
    have HPX := Lib.hid hpx
    clear P hpx
    go_wp2_with ((with_reducible refine (P2.out _ HB.out).mono ?_); rintro e w' ⟨rfl, hb⟩)
    go_roundw
    case rel =>
     refine ⟨k + 1, by omega, by go_num, ⟨fun x hx => ?_⟩, ⟨HB.out.trans (hb.mono HB.out.size)⟩⟩
     have hx' := (ix_mem_take l k c x).1 hx
     cases hx' with
     | inl h => exact HN.out x h
     | inr h => rw [h, HX]; exact HPX
    case measure => simp [intOf]; omega
   ·have P2 := Lib.hid (fun w1 hb => by have := P.out w1 hb; rw [hpx] at this; exact this)
    have hany : l.any p = true := by
     rw [List.any_eq_true]
     exact ⟨X, by rw [← HX.out]; exact List.getElem_mem c, hpx⟩
    have HANY := Lib.hid hany
    clear P hpx hany
    go_wp2_with ((with_reducible refine (P2.out _ HB.out).mono ?_); rintro e w' ⟨rfl, hb⟩)
    go_ret
    exact ⟨⟨k, rfl, by rw [HANY.out]; simp⟩, HB.out.trans (hb.mono HB.out.size)⟩
  ·obtain rfl : k = l.length := by omega
   have hany : l.any p = false := by
    rw [List.any_eq_false]
    intro x hx
    have := HN.out x (by rw [List.take_length]; exact hx)
    simp [this]
   have HANY := Lib.hid hany
   clear hany
   go_wp2
   go_ret
   exact ⟨⟨-1, rfl, by rw [HANY.out]; rfl⟩, HB.out⟩
set_option maxHeartbeats 800000 in
set_option maxRecDepth 100000 in
theorem ix_agg (p : S43 → Bool) (fn : Nat) (A0 : Option Addr) (c0 : Nat) (l : List S43) (w : World)
  (hp : ∀ (x : S43) (w1 : World), x ∈ l → Below w.heap.size w w1 → Calls Try.prog fn #[.agg #[.int .i64 x.f0, .int .i64 x.f1, .string x.f2]] w1 fun e w' => e = .returned (.bool (p x)) ∧ Below w1.heap.size w1 w')
  (hfn : ∀ args w, (callFunc fn args).run Try.prog w = .ok (.enter fn args) w) (hr0 : Kd.C k43 w A0 l.length l) (hl : l.length ≤ 1000) :
  Calls Try.prog 55 #[.slice A0 l.length c0, .func (Fn.func fn) #[] #[]] w fun e w' => (∃ r : Int, e = .returned (.int .i64 r) ∧ decide (0 ≤ r) = l.any p) ∧ Below w.heap.size w w' := by
 have HR := Aside0.mk hr0
 have HP := Lib.hid hp
 clear hr0 hp
 go_enter Try.func55, Try.ntmps55
 go_wp2
 go_loopw [8] (fun v8 wr => ∃ k : Nat, k ≤ l.length ∧ v8 = .int .i64 (k : Int) ∧ Aside0 (∀ x ∈ l.take k, p x = false) ∧ Aside0 (Below w.heap.size w wr)) (fun v8 wr => l.length - (intOf v8).toNat)
 case atStart => exact ⟨0, by omega, rfl, ⟨by simp⟩, ⟨Below.refl _ _⟩⟩
 case round =>
  obtain ⟨k, hk, rfl, HN, HB⟩ := hrel
  by_cases c : k < l.length
  ·obtain ⟨X, hX⟩ : ∃ X, l[k] = X := ⟨_, rfl⟩
   obtain ⟨ad, e1, hx0, hx1, hx2⟩ := at_T43 (Kd.C_below HR.out HB.out) (k : Int) (by omega) (by omega)
   have hrd : rd_T43 l (k : Int) = X := by
    unfold rd_T43
    rw [Int.toNat_natCast, List.getD_eq_getElem?_getD, List.getElem?_eq_getElem c]
    exact hX
   rw [Int.toNat_natCast, hrd] at hx0 hx1 hx2
   clear hrd
   cases e1
   have P := Lib.hid (fun w1 hb => HP.out X w1 (by rw [← hX]; exact List.getElem_mem c) hb)
   have HX := Lib.hid hX
   clear hX
   cases hpx : p X
   ·have P2 := Lib.hid (fun w1 hb => by have := P.out w1 hb; rw [hpx] at this; exact this)
    have HPX := Lib.hid hpx
    clear P hpx
    go_wp2_with ((with_reducible refine (P2.out _ HB.out).mono ?_); rintro e w' ⟨rfl, hb⟩)
    go_roundw
    case rel =>
     refine ⟨k + 1, by omega, by go_num, ⟨fun x hx => ?_⟩, ⟨HB.out.trans (hb.mono HB.out.size)⟩⟩
     have hx' := (ix_mem_take l k c x).1 hx
     cases hx' with
     | inl h => exact HN.out x h
     | inr h => rw [h, HX]; exact HPX
    case measure => simp [intOf]; omega
   ·have P2 := Lib.hid (fun w1 hb => by have := P.out w1 hb; rw [hpx] at this; exact this)
    have hany : l.any p = true := by
     rw [List.any_eq_true]
     exact ⟨X, by rw [← HX.out]; exact List.getElem_mem c, hpx⟩
    have HANY := Lib.hid hany
    clear P hpx hany
    go_wp2_with ((with_reducible refine (P2.out _ HB.out).mono ?_); rintro e w' ⟨rfl, hb⟩)
    go_ret
    exact ⟨⟨k, rfl, by rw [HANY.out]; simp⟩, HB.out.trans (hb.mono HB.out.size)⟩
  ·obtain rfl : k = l.length := by omega
   have hany : l.any p = false := by
    rw [List.any_eq_false]
    intro x hx
    have := HN.out x (by rw [List.take_length]; exact hx)
    simp [this]
   have HANY := Lib.hid hany
   clear hany
   go_wp2
   go_ret
   exact ⟨⟨-1, rfl, by rw [HANY.out]; rfl⟩, HB.out⟩
end Go.Proofs.Ytpidiibhgfjemaa.PLh
end
section
namespace Go.Proofs.Ytpidiibhgfjemaa.EvP
open Go.RowKit Go.Proofs.YtpidiibhgfjemaaW.PrintWords Go.Proofs.YtpidiibhgfjemaaW.PrintLast Go.Proofs.YtpidiibhgfjemaaW.PrintMore
open Go.Proofs.Ytpidiibhgfjemaa.PLg
set_option linter.unusedSimpArgs false
abbrev O := S79
def U {α : Type} (f : Nat → Option α) (r : α) : Prop := ∃ k0, ∀ k, k0 ≤ k → f k = some r
theorem U.succ {α : Type} {f : Nat → Option α} {r : α} (h : U (fun k => f (k + 1)) r) : U f r := by
 obtain ⟨k0, h⟩ := h
 refine ⟨k0 + 1, fun k hk => ?_⟩
 obtain ⟨j, rfl⟩ : ∃ j, k = j + 1 := ⟨k - 1, by omega⟩
 exact h j (by omega)
theorem U.some {α : Type} (r : α) : U (fun _ => some r) r := ⟨0, fun _ _ => rfl⟩
theorem U.const {α : Type} {x : Option α} {r : α} (h : x = Option.some r) : U (fun _ => x) r := ⟨0, fun _ _ => h⟩
theorem U.bind {α β : Type} {f : Nat → Option α} {a : α} {g : Nat → α → Option β} {r : β} (hf : U f a) (hg : U (fun k => g k a) r) : U (fun k => (f k).bind (g k)) r := by
 obtain ⟨k0, h0⟩ := hf
 obtain ⟨k1, h1⟩ := hg
 refine ⟨max k0 k1, fun k hk => ?_⟩
 show (f k).bind (g k) = _
 rw [h0 k (by omega)]
 exact h1 k (by omega)
theorem U.map {α β : Type} {f : Nat → Option α} {a : α} {g : α → β} (hf : U f a) : U (fun k => (f k).map g) (g a) := by
 obtain ⟨k0, h0⟩ := hf
 exact ⟨k0, fun k hk => by show (f k).map g = _; rw [h0 k hk]; rfl⟩
theorem U.congr {α : Type} {f g : Nat → Option α} {r : α} (h : U f r) (e : ∀ k, g k = f k) : U g r := by
 obtain ⟨k0, h0⟩ := h
 exact ⟨k0, fun k hk => (e k).trans (h0 k hk)⟩
theorem U.congr_r {α : Type} {f : Nat → Option α} {r s : α} (h : U f r) (e : r = s) : U f s := e ▸ h
theorem U.pos {α : Type} {c : Prop} [Decidable c] {f g : Nat → Option α} {r : α} (h : c) (hf : U f r) : U (fun k => if c then f k else g k) r := hf.congr fun _ => if_pos h
theorem U.neg {α : Type} {c : Prop} [Decidable c] {f g : Nat → Option α} {r : α} (h : ¬ c) (hf : U g r) : U (fun k => if c then f k else g k) r := hf.congr fun _ => if_neg h
theorem U.get {α : Type} {f : Nat → Option α} {r : α} (h : U f r) : ∃ k, f k = Option.some r := by
 obtain ⟨k0, h0⟩ := h
 exact ⟨k0, h0 k0 (Nat.le_refl _)⟩
theorem w64 {x : Int} (h0 : -9223372036854775808 ≤ x) (h1 : x ≤ 9223372036854775807) : wrap64 x = x := by unfold wrap64; omega
def takes (c : Int) : Int := if c < 1 ∨ c > 20 then -1 else if c ≤ 3 then 0 else if c ≤ 6 then 1 else 2
theorem takes_E (c : Int) : U (fun k => expr_Takes.f k c) (takes c) := by
 refine ⟨3, fun k hk => ?_⟩
 obtain ⟨j, rfl⟩ : ∃ j, k = j + 3 := ⟨k - 3, by omega⟩
 show expr_Takes.f (j + 3) c = _
 unfold expr_Takes.f takes
 simp only [expr_Takes.j0, expr_Takes.j1, decide_eq_true_eq, Bool.false_eq_true, if_false]
 repeat' split
 all_goals first | rfl | (exfalso; omega)
def noT (t : ByteArray) : Bool := t.toList == ([] : List UInt8)
def okW (o : O) : Bool :=
 if o.f0 = 1 then noT o.f2 else if o.f0 = 2 then decide (o.f1 = 0 ∧ o.f2.size ≤ 64) else if o.f0 = 3 then decide (0 ≤ o.f1 ∧ o.f1 < 8) && noT o.f2
 else decide (0 ≤ takes o.f0 ∧ o.f1 = 0) && noT o.f2
theorem word_E (o : O) : U (fun k => expr_word.f k o.f0 o.f1 o.f2) (okW o) := by
 obtain ⟨c, n, t⟩ := o
 unfold expr_word.f okW noT
 simp only
 by_cases h1 : c = 1
 ·refine U.pos h1 ?_; rw [if_pos h1]; exact U.some _
 refine U.neg h1 ?_; rw [if_neg h1]
 by_cases h2 : c = 2
 ·refine U.pos h2 ?_; rw [if_pos h2]
  by_cases h3 : n = 0
  ·refine U.pos h3 ?_; refine U.const ?_; congr 1; simp [h3]; omega
  ·refine U.neg h3 ?_; refine U.const ?_; congr 1; simp [h3]
 refine U.neg h2 ?_; rw [if_neg h2]
 by_cases h3 : c = 3
 ·refine U.pos h3 ?_; rw [if_pos h3]
  by_cases h4 : n ≥ 0
  ·refine U.pos h4 ?_
   by_cases h5 : n < 8
   ·refine U.pos h5 ?_; refine U.const ?_; simp [h5]; omega
   ·refine U.neg h5 ?_; refine U.const ?_; simp [h5]
  ·refine U.neg h4 ?_; refine U.const ?_; simp; omega
 refine U.neg h3 ?_; rw [if_neg h3]
 refine U.bind (takes_E c) ?_
 by_cases h4 : takes c ≥ 0
 ·refine U.pos h4 ?_
  by_cases h5 : n = 0
  ·refine U.pos h5 ?_; refine U.const ?_; simp [h5]; omega
  ·refine U.neg h5 ?_; refine U.const ?_; simp [h5]
 ·refine U.neg h4 ?_; refine U.const ?_; simp; omega
inductive T where
 | l (o : O)
 | u (o : O) (t : T)
 | b (o : O) (t s : T)
def T.ok : T → Prop
 | .l o => okW o = true ∧ takes o.f0 = 0
 | .u o t => okW o = true ∧ takes o.f0 = 1 ∧ t.ok
 | .b o t s => okW o = true ∧ takes o.f0 = 2 ∧ t.ok ∧ s.ok
theorem okW_takes {o : O} (h : okW o = true) : takes o.f0 = 0 ∨ takes o.f0 = 1 ∨ takes o.f0 = 2 := by
  obtain ⟨c, n, t⟩ := o
  have : takes c = -1 ∨ takes c = 0 ∨ takes c = 1 ∨ takes c = 2 := by unfold takes; repeat' split
                                                                      all_goals simp
  rcases this with h1 | h1
  · exfalso
    have hc : c < 1 ∨ c > 20 := by
      unfold takes at h1
      split at h1
      · assumption
      · split at h1
        · simp at h1
        · split at h1 <;> simp at h1
    unfold okW at h
    simp only at h
    rw [if_neg (by omega), if_neg (by omega), if_neg (by omega), h1] at h
    simp at h
  · exact h1
def push (o : O) (st : List T) : Option (List T) :=
 if okW o = true then (if takes o.f0 = 0 then some (.l o :: st) else if takes o.f0 = 1 then (match st with
   | t :: st => some (.u o t :: st)
   | [] => none) else (match st with
   | s :: t :: st => some (.b o t s :: st)
   | _ => none)) else none
def parse : List O → List T → Option (List T)
 | [], st => some st
 | o :: os, st => (push o st).bind (parse os)
theorem parse_cons (o : O) (os : List O) (st : List T) : parse (o :: os) st = (push o st).bind (parse os) := rfl
def formR (r : Option (List T)) : Int := match r with
 | some [_] => 0
 | _ => 18
theorem rd_at (p : List O) (o : O) (q : List O) : rd_T79 (p ++ o :: q) (p.length : Int) = o := by
 unfold rd_T79
 simp
theorem form_l0 (x : List O) (hx : x.length ≤ 64) : ∀ (ys p : List O) (st : List T), x = p ++ ys → st.length ≤ p.length → U (fun k => expr_Form.l0 k (st.length : Int) x (x.length : Int) (p.length : Int)) (formR (parse ys st))
 | [], p, st, h, hs => by
  refine U.succ ?_
  simp only [expr_Form.l0]
  refine U.neg (by rw [h]; simp) ?_
  match st with
  | [] => exact U.some _
  | [t] => exact U.some _
  | s :: t :: st =>
   refine U.neg (by simp; omega) ?_
   exact U.some _
 | o :: os, p, st, h, hs => by
  have hl : x.length = p.length + (os.length + 1) := by rw [h]; simp
  refine U.succ ?_
  simp only [expr_Form.l0]
  refine U.pos (by omega) (U.pos (by omega) (U.pos (by omega) ?_))
  rw [h, rd_at, ← h]
  refine U.bind (word_E o) ?_
  have ih := fun st' => form_l0 x hx os (p ++ [o]) st' (by rw [h]; simp)
  have hp : wrap64 ((p.length : Int) + 1) = ((p ++ [o]).length : Int) := by rw [w64 (by omega) (by omega)]; simp
  rw [parse_cons]
  unfold push
  by_cases hw : okW o = true
  ·refine U.pos hw ?_
   rw [if_pos hw]
   refine U.bind (takes_E o.f0) ?_
   rcases okW_takes hw with h0 | h0 | h0
   ·rw [if_pos h0]
    refine U.neg (by omega) (U.bind (takes_E o.f0) ?_)
    have := ih (.l o :: st) (by simp; omega)
    rw [h0, hp]
    refine this.congr fun k => ?_
    congr 1
    rw [w64 (x := 1 - 0) (by omega) (by omega), w64 (by omega) (by omega)]; simp
   ·rw [if_neg (by omega), if_pos h0]
    match st, hs with
    | [], hs => exact U.pos (by simp; omega) (U.some _)
    | t :: st, hs =>
     simp at hs
     refine U.neg (by simp; omega) (U.bind (takes_E o.f0) ?_)
     have := ih (.u o t :: st) (by simp; omega)
     rw [h0, hp]
     refine this.congr fun k => ?_
     congr 1
     rw [w64 (x := 1 - 1) (by omega) (by omega), w64 (by simp; omega) (by simp; omega)]; simp
   ·rw [if_neg (by omega), if_neg (by omega)]
    match st, hs with
    | [], hs => exact U.pos (by simp; omega) (U.some _)
    | [t], hs => exact U.pos (by simp; omega) (U.some _)
    | s :: t :: st, hs =>
     simp at hs
     refine U.neg (by simp; omega) (U.bind (takes_E o.f0) ?_)
     have := ih (.b o t s :: st) (by simp; omega)
     rw [h0, hp]
     refine this.congr fun k => ?_
     congr 1
     rw [w64 (x := 1 - 2) (by omega) (by omega), w64 (by simp; omega) (by simp; omega)]; simp; omega
  ·refine U.neg hw ?_
   rw [if_neg hw]
   exact U.some _
def formV (x : List O) : Int := if x.length > 64 then 6 else formR (parse x [])
theorem form_E (x : List O) : U (fun k => expr_Form.f k x) (formV x) := by
 unfold expr_Form.f formV
 by_cases h : x.length > 64
 ·rw [if_pos h]; exact U.pos (by omega) (U.some _)
 ·rw [if_neg h]
  exact U.neg (by omega) (form_l0 x (by omega) x [] [] rfl (by simp))
end Go.Proofs.Ytpidiibhgfjemaa.EvP
end
section
namespace Go.Proofs.Ytpidiibhgfjemaa.EvP
open Go.RowKit Go.Proofs.YtpidiibhgfjemaaW.PrintWords Go.Proofs.YtpidiibhgfjemaaW.PrintLast Go.Proofs.YtpidiibhgfjemaaW.PrintMore
open Go.Proofs.Ytpidiibhgfjemaa.PLg
set_option linter.unusedSimpArgs false
set_option linter.unusedVariables false
end Go.Proofs.Ytpidiibhgfjemaa.EvP
end
section
namespace Go.Proofs.Ytpidiibhgfjemaa.EvP
open Go.RowKit Go.Proofs.YtpidiibhgfjemaaW.PrintWords Go.Proofs.YtpidiibhgfjemaaW.PrintLast Go.Proofs.YtpidiibhgfjemaaW.PrintMore
open Go.Proofs.Ytpidiibhgfjemaa.PLg
set_option linter.unusedSimpArgs false
set_option linter.unusedVariables false
def okB (b : Int) : Bool := (decide (97 ≤ b) && decide (b ≤ 122)) || (decide (48 ≤ b) && decide (b ≤ 57))
def restOk (s : ByteArray) (i : Nat) : Bool := decide (∀ j, j < s.size → i ≤ j → okB (bt s (j : Int)) = true)
theorem rest_step (s : ByteArray) (i : Nat) (h : i < s.size) : restOk s i = (okB (bt s (i : Int)) && restOk s (i + 1)) := by
 unfold restOk
 rw [Bool.eq_iff_iff]
 simp only [decide_eq_true_eq, Bool.and_eq_true]
 constructor
 ·intro k
  exact ⟨k i h (Nat.le_refl _), fun j hj hij => k j hj (by omega)⟩
 ·rintro ⟨k0, k⟩ j hj hij
  rcases Nat.eq_or_lt_of_le hij with e | e
  ·subst e; exact k0
  ·exact k j hj e
theorem rest_end (s : ByteArray) (i : Nat) (h : ¬ i < s.size) : restOk s i = true := by
 unfold restOk
 rw [decide_eq_true_eq]
 intro j hj hij
 omega
def kwB (s : ByteArray) : Bool := s.toList == ([97, 110, 100] : List UInt8) || s.toList == ([111, 114] : List UInt8) || s.toList == ([110, 111, 116] : List UInt8) || s.toList == ([108, 101, 110] : List UInt8)
def nameB (s : ByteArray) : Bool := decide (1 ≤ s.size) && decide (s.size ≤ 16) && decide (97 ≤ bt s 0) && restOk s 0 && !kwB s
theorem name_l0 (s : ByteArray) (hs : s.size ≤ 16) : ∀ (q i : Nat), s.size - i = q → i ≤ s.size → U (fun k => schema_Name.l0 k s (s.size : Int) (i : Int)) (restOk s i && !kwB s) := by
 intro q
 induction q with
 | zero =>
  intro i hq hi
  refine U.succ ?_
  simp only [schema_Name.l0]
  refine U.neg (by omega) ?_
  rw [rest_end s i (by omega), Bool.true_and]
  unfold kwB
  by_cases h1 : s.toList = ([97, 110, 100] : List UInt8)
  ·exact U.pos h1 (U.const (by simp [h1]))
  refine U.neg h1 ?_
  by_cases h2 : s.toList = ([111, 114] : List UInt8)
  ·exact U.pos h2 (U.const (by simp [h2]))
  refine U.neg h2 ?_
  by_cases h3 : s.toList = ([110, 111, 116] : List UInt8)
  ·exact U.pos h3 (U.const (by simp [h3]))
  refine U.neg h3 ?_
  by_cases h4 : s.toList = ([108, 101, 110] : List UInt8)
  ·exact U.pos h4 (U.const (by simp [h4]))
  ·exact U.neg h4 (U.const (by simp [h1, h2, h3, h4]))
 | succ q ih =>
  intro i hq hi
  have hlt : i < s.size := by omega
  refine U.succ ?_
  simp only [schema_Name.l0]
  have hn := ih (i + 1) (by omega) (by omega)
  have hw : wrap64 ((i : Int) + 1) = ((i + 1 : Nat) : Int) := by rw [w64 (by omega) (by omega)]; simp
  rw [rest_step s i hlt, hw]
  refine U.pos (by omega) (U.pos (by omega) (U.pos (by omega) ?_))
  generalize bt s (i : Int) = b
  have go : okB b = true → U (fun k => schema_Name.l0 k s (s.size : Int) ((i + 1 : Nat) : Int)) (okB b && restOk s (i + 1) && !kwB s) := fun h => by rw [h, Bool.true_and]; exact hn
  have no : okB b = false → U (fun _ => some false) (okB b && restOk s (i + 1) && !kwB s) := fun h => by rw [h]; exact U.some _
  have dig : ¬ (97 ≤ b ∧ b ≤ 122) → U (fun k => if b < 48 then (some false) else (if b > 57 then (some false) else (schema_Name.l0 k s (s.size : Int) ((i + 1 : Nat) : Int)))) (okB b && restOk s (i + 1) && !kwB s) := by
   intro hn1
   by_cases h3 : b < 48
   ·exact U.pos h3 (no (by unfold okB; simp; omega))
   refine U.neg h3 ?_
   by_cases h4 : b > 57
   ·exact U.pos h4 (no (by unfold okB; simp; omega))
   ·exact U.neg h4 (go (by unfold okB; simp; omega))
  by_cases h1 : b ≥ 97
  ·refine U.pos h1 ?_
   by_cases h2 : b ≤ 122
   ·exact U.pos h2 (go (by unfold okB; simp; omega))
   ·exact U.neg h2 (dig (by omega))
  ·exact U.neg h1 (dig (by omega))
theorem name_E (s : ByteArray) : U (fun k => schema_Name.f k s) (nameB s) := by
 unfold schema_Name.f nameB
 have j : ∀ b : Bool, s.size ≤ 16 → U (fun k => schema_Name.j0 k s b) (!b && restOk s 0 && !kwB s) := by
  intro b hs
  refine U.succ ?_
  simp only [schema_Name.j0]
  cases b with
  | true => exact U.pos rfl (U.some _)
  | false => exact U.neg (by simp) (by simpa using name_l0 s hs _ 0 rfl (by omega))
 have jt : U (fun k => schema_Name.j0 k s true) false := by
  refine U.succ ?_
  simp only [schema_Name.j0]
  exact U.pos trivial (U.some _)
 by_cases h1 : s.size < 1
 ·refine U.pos (by omega) ?_
  rw [decide_eq_false (by omega : ¬ 1 ≤ s.size)]
  exact jt
 refine U.neg (by omega) ?_
 rw [decide_eq_true (by omega : 1 ≤ s.size)]
 by_cases h2 : s.size > 16
 ·refine U.pos (by omega) ?_
  rw [decide_eq_false (by omega : ¬ s.size ≤ 16)]
  exact jt
 refine U.neg (by omega) (U.pos (by omega) ?_)
 rw [decide_eq_true (by omega : s.size ≤ 16)]
 refine (j (decide (bt s 0 < 97)) (by omega)).congr_r ?_
 by_cases h3 : bt s 0 < 97
 ·rw [decide_eq_true h3, decide_eq_false (by omega : ¬ 97 ≤ bt s 0)]; simp
 ·rw [decide_eq_false h3, decide_eq_true (by omega : 97 ≤ bt s 0)]; simp
end Go.Proofs.Ytpidiibhgfjemaa.EvP
end
section
namespace Go.Proofs.Ytpidiibhgfjemaa.PLh
open Go.Proofs.Ytpidiibhgfjemaa.PLg
open Go.RowKit Go.Proofs.YtpidiibhgfjemaaW.PrintWords Go.Proofs.YtpidiibhgfjemaaW.PrintLast Go.Proofs.YtpidiibhgfjemaaW.PrintMore
theorem drawn_below {w w' : World} (h : Drawn0 w w') : Below w.heap.size w w' := by
 obtain ⟨n, rfl⟩ := h
 exact pw_below_drewN (Below.refl _ w) n
theorem name_calls (s : ByteArray) (w : World) : Calls Try.prog 39 #[.string s] w fun e w' => e = .returned (.bool (EvP.nameB s)) ∧ Drawn0 w w' := by
 obtain ⟨k, hk⟩ := (EvP.name_E s).get
 exact schema_Name.calls k s _ w hk
def colB (c : Int) : Bool := decide (c ≥ 0) && decide (c < 8)
theorem colB_f (c : Int) : plan_col.f c = some (colB c) := by
 unfold plan_col.f colB
 by_cases h : c ≥ 0
 ·rw [if_pos h, decide_eq_true h, Bool.true_and]
 ·rw [if_neg h, decide_eq_false h]; rfl
theorem col_calls (c : Int) (w : World) : Calls Try.prog 35 #[.int .i64 c] w fun e w' => e = .returned (.bool (colB c)) ∧ Drawn0 w w' := plan_col.calls c _ w (colB_f c)
theorem lists2_calls (c : Int) (w : World) : Calls Try.prog 40 #[.int .i64 c] w fun e w' => e = .returned (.bool (!colB c)) ∧ Below w.heap.size w w' := by
 have C := Lib.hid (col_calls c)
 generalize colB c = b at *
 go_enter Try.func40, Try.ntmps40
 go_wp2_with (go_at_call 35; ((with_reducible refine (C.out _).mono ?_); rintro e w' ⟨rfl, hd⟩; have HD := Lib.hid (drawn_below hd); clear hd))
 go_ret
 exact ⟨rfl, HD⟩
theorem lists11_calls (s : ByteArray) (g : Nat) (w : World) (hc : w.cell? ⟨g, 0, none⟩ = some (.func (.func 39) #[] #[])) :
  Calls Try.prog 37 #[.string s, .pointer (some ⟨g, 0, none⟩)] w fun e w' => e = .returned (.bool (!EvP.nameB s)) ∧ Below w.heap.size w w' := by
 have C := Lib.hid (name_calls s)
 generalize EvP.nameB s = b at *
 go_enter Try.func37, Try.ntmps37
 go_wp2_with ((with_reducible refine (C.out _).mono ?_); rintro e w' ⟨rfl, hd⟩; have HD := Lib.hid (drawn_below hd); clear hd)
 go_ret
 exact ⟨rfl, HD⟩
def aggB (x : S43) : Bool := decide (x.f0 ≥ 1) && decide (x.f0 ≤ 7) && colB x.f1 && EvP.nameB x.f2
set_option maxHeartbeats 1000000 in
theorem agg_calls (x0 x1 : Int) (x2 : ByteArray) (w : World) :
  Calls Try.prog 43 #[.agg #[.int .i64 x0, .int .i64 x1, .string x2]] w fun e w' => e = .returned (.bool (aggB ⟨x0, x1, x2⟩)) ∧ Below w.heap.size w w' := by
 have C := Lib.hid (col_calls x1)
 have N := Lib.hid (name_calls x2)
 have HB := Lib.hid (Below.alloc (Below.refl w.heap.size w) (Nat.le_refl _) (.cells #[.int .i64 x0, .int .i64 x1, .string x2] 43 (0, 0)))
 have hu := Try.underlying43
 have hv : aggB ⟨x0, x1, x2⟩ = (decide (x0 ≥ 1) && decide (x0 ≤ 7) && colB x1 && EvP.nameB x2) := rfl
 generalize aggB ⟨x0, x1, x2⟩ = r at *
 generalize colB x1 = c at *
 generalize EvP.nameB x2 = m at *
 by_cases h1 : x0 ≥ 1
 ·have b1 : decide (x0 ≥ 1) = true := decide_eq_true h1
  clear h1
  by_cases h2 : x0 ≤ 7
  ·have b2 : decide (x0 ≤ 7) = true := decide_eq_true h2
   clear h2
   rw [b1, b2, Bool.true_and, Bool.true_and] at hv
   subst hv
   cases c
   ·go_enter Try.func43, Try.ntmps43
    go_wp2_with (go_at_call 35; ((with_reducible refine (C.out _).mono ?_); rintro e w' ⟨rfl, ⟨n1, rfl⟩⟩))
    go_ret
    exact ⟨rfl, pw_below_drewN HB n1⟩
   ·rw [Bool.true_and]
    go_enter Try.func43, Try.ntmps43
    go_wp2_with (first
     | (go_at_call 35; ((with_reducible refine (C.out _).mono ?_); rintro e w' ⟨rfl, ⟨n1, rfl⟩⟩))
     | (go_at_call 39; ((with_reducible refine (N.out _).mono ?_); rintro e w' ⟨rfl, ⟨n2, rfl⟩⟩)))
    go_ret
    exact ⟨rfl, pw_below_drewN HB (n1 + n2)⟩
  ·have b2 : decide (x0 ≤ 7) = false := decide_eq_false h2
   clear h2
   rw [b1, b2] at hv
   obtain rfl : r = false := hv
   go_enter Try.func43, Try.ntmps43
   go_wp2_with fail
   go_ret
   exact ⟨rfl, HB⟩
 ·have b1 : decide (x0 ≥ 1) = false := decide_eq_false h1
  clear h1
  rw [b1] at hv
  obtain rfl : r = false := hv
  go_enter Try.func43, Try.ntmps43
  go_wp2_with fail
  go_ret
  exact ⟨rfl, HB⟩
theorem lists3_calls (x : S43) (w : World) :
  Calls Try.prog 42 #[.agg #[.int .i64 x.f0, .int .i64 x.f1, .string x.f2]] w fun e w' => e = .returned (.bool (!aggB x)) ∧ Below w.heap.size w w' := by
 have C := Lib.hid (agg_calls x.f0 x.f1 x.f2)
 have HB := Lib.hid (Below.alloc (Below.refl w.heap.size w) (Nat.le_refl _) (.cells #[.int .i64 x.f0, .int .i64 x.f1, .string x.f2] 43 (0, 0)))
 have hu := Try.underlying43
 have e0 : aggB ⟨x.f0, x.f1, x.f2⟩ = aggB x := rfl
 rw [e0] at C
 clear e0
 generalize aggB x = b at *
 go_enter Try.func42, Try.ntmps42
 go_wp2_with (go_at_call 43; ((with_reducible refine (C.out _).mono ?_); rintro e w' ⟨rfl, hd⟩; have HD := Lib.hid hd; clear hd))
 go_ret
 exact ⟨rfl, HB.out.trans (HD.out.mono (by simp))⟩
end Go.Proofs.Ytpidiibhgfjemaa.PLh
end
