import Derived.Test.YtbjbnlngdkkidaaPEvx0
import Derived.Test.YtbjbnlngdkkidaaPEvx3
import Derived.Test.YtbjbnlngdkkidaaPEvx4
import Derived.Test.YtbjbnlngdkkidaaPEvx7
namespace Go.Proofs.Ytbjbnlngdkkidaa.PEv
open Go.RowKit Go.Proofs.YtbjbnlngdkkidaaW.PrintWords Go.Proofs.YtbjbnlngdkkidaaW.PrintLast Go.Proofs.YtbjbnlngdkkidaaW.PrintMore
attribute [local go_sem] max2_int min2_int max_two min_two max_three min_three max_four min_four
set_option linter.unusedVariables false
set_option linter.unusedSimpArgs false
def rescindref01_Add.f (a0 : Int) (a1 : Int) : Option (Int × Int) := if a1 > 0 then (if a0 > (wrap64 (9223372036854775807 - a1)) then (some (0, 10)) else (if a1 < 0 then (if a0 < (wrap64 ((-9223372036854775808) - a1)) then (some (0, 10)) else (some (wrap64 (a0 + a1), 0))) else (some (wrap64 (a0 + a1), 0)))) else (if a1 < 0 then (if a0 < (wrap64 ((-9223372036854775808) - a1)) then (some (0, 10)) else (some (wrap64 (a0 + a1), 0))) else (some (wrap64 (a0 + a1), 0)))
set_option maxHeartbeats 8000000 in
set_option maxRecDepth 100000 in
theorem rescindref01_Add.calls (a0 : Int) (a1 : Int) (r1 : Int) (r2 : Int) (w : World) (h : rescindref01_Add.f a0 a1 = some (r1, r2)) :
    Calls Try.prog 51 #[.int .i64 a0, .int .i64 a1] w fun e w' => e = .returned (.tuple #[.int .i64 r1, .int .i64 r2]) ∧ Drawn0 w w' := by
  have H : (if a1 > 0 then (if a0 > (wrap64 (9223372036854775807 - a1)) then (some (0, 10)) else (if a1 < 0 then (if a0 < (wrap64 ((-9223372036854775808) - a1)) then (some (0, 10)) else (some (wrap64 (a0 + a1), 0))) else (some (wrap64 (a0 + a1), 0)))) else (if a1 < 0 then (if a0 < (wrap64 ((-9223372036854775808) - a1)) then (some (0, 10)) else (some (wrap64 (a0 + a1), 0))) else (some (wrap64 (a0 + a1), 0)))) = some (r1, r2) := h
  clear h
  by_cases c3 : a1 > 0
  · rw [if_pos c3] at H
    have c3b0 : decide (0 < a1) = true := decide_eq_true c3
    clear c3
    by_cases c4 : a0 > (wrap64 (9223372036854775807 - a1))
    · rw [if_pos c4] at H
      have c4b0 : decide ((wrap64 (9223372036854775807 - a1)) < a0) = true := decide_eq_true c4
      clear c4
      simp only [Option.some.injEq, Prod.mk.injEq] at H
      obtain ⟨rfl, rfl⟩ := H
      go_enter Try.func51, Try.ntmps51
      go_wp2
      go_ret2
      exact ⟨by first | rfl | (simp; done) | (simp [*]; done), by repeat (first | exact Drawn0.refl _ | apply Drawn0.step)⟩
    · rw [if_neg c4] at H
      have c4b0 : decide ((wrap64 (9223372036854775807 - a1)) < a0) = false := decide_eq_false c4
      clear c4
      by_cases c5 : a1 < 0
      · rw [if_pos c5] at H
        have c5b0 : decide (a1 < 0) = true := decide_eq_true c5
        clear c5
        by_cases c6 : a0 < (wrap64 ((-9223372036854775808) - a1))
        · rw [if_pos c6] at H
          have c6b0 : decide (a0 < (wrap64 ((-9223372036854775808) - a1))) = true := decide_eq_true c6
          clear c6
          simp only [Option.some.injEq, Prod.mk.injEq] at H
          obtain ⟨rfl, rfl⟩ := H
          go_enter Try.func51, Try.ntmps51
          go_wp2
          go_ret2
          exact ⟨by first | rfl | (simp; done) | (simp [*]; done), by repeat (first | exact Drawn0.refl _ | apply Drawn0.step)⟩
        · rw [if_neg c6] at H
          have c6b0 : decide (a0 < (wrap64 ((-9223372036854775808) - a1))) = false := decide_eq_false c6
          clear c6
          simp only [Option.some.injEq, Prod.mk.injEq] at H
          obtain ⟨rfl, rfl⟩ := H
          go_enter Try.func51, Try.ntmps51
          go_wp2
          go_ret2
          exact ⟨by first | rfl | (simp; done) | (simp [*]; done), by repeat (first | exact Drawn0.refl _ | apply Drawn0.step)⟩
      · rw [if_neg c5] at H
        have c5b0 : decide (a1 < 0) = false := decide_eq_false c5
        clear c5
        simp only [Option.some.injEq, Prod.mk.injEq] at H
        obtain ⟨rfl, rfl⟩ := H
        go_enter Try.func51, Try.ntmps51
        go_wp2
        go_ret2
        exact ⟨by first | rfl | (simp; done) | (simp [*]; done), by repeat (first | exact Drawn0.refl _ | apply Drawn0.step)⟩
  · rw [if_neg c3] at H
    have c3b0 : decide (0 < a1) = false := decide_eq_false c3
    clear c3
    by_cases c7 : a1 < 0
    · rw [if_pos c7] at H
      have c7b0 : decide (a1 < 0) = true := decide_eq_true c7
      clear c7
      by_cases c8 : a0 < (wrap64 ((-9223372036854775808) - a1))
      · rw [if_pos c8] at H
        have c8b0 : decide (a0 < (wrap64 ((-9223372036854775808) - a1))) = true := decide_eq_true c8
        clear c8
        simp only [Option.some.injEq, Prod.mk.injEq] at H
        obtain ⟨rfl, rfl⟩ := H
        go_enter Try.func51, Try.ntmps51
        go_wp2
        go_ret2
        exact ⟨by first | rfl | (simp; done) | (simp [*]; done), by repeat (first | exact Drawn0.refl _ | apply Drawn0.step)⟩
      · rw [if_neg c8] at H
        have c8b0 : decide (a0 < (wrap64 ((-9223372036854775808) - a1))) = false := decide_eq_false c8
        clear c8
        simp only [Option.some.injEq, Prod.mk.injEq] at H
        obtain ⟨rfl, rfl⟩ := H
        go_enter Try.func51, Try.ntmps51
        go_wp2
        go_ret2
        exact ⟨by first | rfl | (simp; done) | (simp [*]; done), by repeat (first | exact Drawn0.refl _ | apply Drawn0.step)⟩
    · rw [if_neg c7] at H
      have c7b0 : decide (a1 < 0) = false := decide_eq_false c7
      clear c7
      simp only [Option.some.injEq, Prod.mk.injEq] at H
      obtain ⟨rfl, rfl⟩ := H
      go_enter Try.func51, Try.ntmps51
      go_wp2
      go_ret2
      exact ⟨by first | rfl | (simp; done) | (simp [*]; done), by repeat (first | exact Drawn0.refl _ | apply Drawn0.step)⟩
def rescindref01_Sub.f (a0 : Int) (a1 : Int) : Option (Int × Int) := if a1 < 0 then (if a0 > (wrap64 (9223372036854775807 + a1)) then (some (0, 10)) else (if a1 > 0 then (if a0 < (wrap64 ((-9223372036854775808) + a1)) then (some (0, 10)) else (some (wrap64 (a0 - a1), 0))) else (some (wrap64 (a0 - a1), 0)))) else (if a1 > 0 then (if a0 < (wrap64 ((-9223372036854775808) + a1)) then (some (0, 10)) else (some (wrap64 (a0 - a1), 0))) else (some (wrap64 (a0 - a1), 0)))
set_option maxHeartbeats 8000000 in
set_option maxRecDepth 100000 in
theorem rescindref01_Sub.calls (a0 : Int) (a1 : Int) (r1 : Int) (r2 : Int) (w : World) (h : rescindref01_Sub.f a0 a1 = some (r1, r2)) :
    Calls Try.prog 52 #[.int .i64 a0, .int .i64 a1] w fun e w' => e = .returned (.tuple #[.int .i64 r1, .int .i64 r2]) ∧ Drawn0 w w' := by
  have H : (if a1 < 0 then (if a0 > (wrap64 (9223372036854775807 + a1)) then (some (0, 10)) else (if a1 > 0 then (if a0 < (wrap64 ((-9223372036854775808) + a1)) then (some (0, 10)) else (some (wrap64 (a0 - a1), 0))) else (some (wrap64 (a0 - a1), 0)))) else (if a1 > 0 then (if a0 < (wrap64 ((-9223372036854775808) + a1)) then (some (0, 10)) else (some (wrap64 (a0 - a1), 0))) else (some (wrap64 (a0 - a1), 0)))) = some (r1, r2) := h
  clear h
  by_cases c3 : a1 < 0
  · rw [if_pos c3] at H
    have c3b0 : decide (a1 < 0) = true := decide_eq_true c3
    clear c3
    by_cases c4 : a0 > (wrap64 (9223372036854775807 + a1))
    · rw [if_pos c4] at H
      have c4b0 : decide ((wrap64 (9223372036854775807 + a1)) < a0) = true := decide_eq_true c4
      clear c4
      simp only [Option.some.injEq, Prod.mk.injEq] at H
      obtain ⟨rfl, rfl⟩ := H
      go_enter Try.func52, Try.ntmps52
      go_wp2
      go_ret2
      exact ⟨by first | rfl | (simp; done) | (simp [*]; done), by repeat (first | exact Drawn0.refl _ | apply Drawn0.step)⟩
    · rw [if_neg c4] at H
      have c4b0 : decide ((wrap64 (9223372036854775807 + a1)) < a0) = false := decide_eq_false c4
      clear c4
      by_cases c5 : a1 > 0
      · rw [if_pos c5] at H
        have c5b0 : decide (0 < a1) = true := decide_eq_true c5
        clear c5
        by_cases c6 : a0 < (wrap64 ((-9223372036854775808) + a1))
        · rw [if_pos c6] at H
          have c6b0 : decide (a0 < (wrap64 ((-9223372036854775808) + a1))) = true := decide_eq_true c6
          clear c6
          simp only [Option.some.injEq, Prod.mk.injEq] at H
          obtain ⟨rfl, rfl⟩ := H
          go_enter Try.func52, Try.ntmps52
          go_wp2
          go_ret2
          exact ⟨by first | rfl | (simp; done) | (simp [*]; done), by repeat (first | exact Drawn0.refl _ | apply Drawn0.step)⟩
        · rw [if_neg c6] at H
          have c6b0 : decide (a0 < (wrap64 ((-9223372036854775808) + a1))) = false := decide_eq_false c6
          clear c6
          simp only [Option.some.injEq, Prod.mk.injEq] at H
          obtain ⟨rfl, rfl⟩ := H
          go_enter Try.func52, Try.ntmps52
          go_wp2
          go_ret2
          exact ⟨by first | rfl | (simp; done) | (simp [*]; done), by repeat (first | exact Drawn0.refl _ | apply Drawn0.step)⟩
      · rw [if_neg c5] at H
        have c5b0 : decide (0 < a1) = false := decide_eq_false c5
        clear c5
        simp only [Option.some.injEq, Prod.mk.injEq] at H
        obtain ⟨rfl, rfl⟩ := H
        go_enter Try.func52, Try.ntmps52
        go_wp2
        go_ret2
        exact ⟨by first | rfl | (simp; done) | (simp [*]; done), by repeat (first | exact Drawn0.refl _ | apply Drawn0.step)⟩
  · rw [if_neg c3] at H
    have c3b0 : decide (a1 < 0) = false := decide_eq_false c3
    clear c3
    by_cases c7 : a1 > 0
    · rw [if_pos c7] at H
      have c7b0 : decide (0 < a1) = true := decide_eq_true c7
      clear c7
      by_cases c8 : a0 < (wrap64 ((-9223372036854775808) + a1))
      · rw [if_pos c8] at H
        have c8b0 : decide (a0 < (wrap64 ((-9223372036854775808) + a1))) = true := decide_eq_true c8
        clear c8
        simp only [Option.some.injEq, Prod.mk.injEq] at H
        obtain ⟨rfl, rfl⟩ := H
        go_enter Try.func52, Try.ntmps52
        go_wp2
        go_ret2
        exact ⟨by first | rfl | (simp; done) | (simp [*]; done), by repeat (first | exact Drawn0.refl _ | apply Drawn0.step)⟩
      · rw [if_neg c8] at H
        have c8b0 : decide (a0 < (wrap64 ((-9223372036854775808) + a1))) = false := decide_eq_false c8
        clear c8
        simp only [Option.some.injEq, Prod.mk.injEq] at H
        obtain ⟨rfl, rfl⟩ := H
        go_enter Try.func52, Try.ntmps52
        go_wp2
        go_ret2
        exact ⟨by first | rfl | (simp; done) | (simp [*]; done), by repeat (first | exact Drawn0.refl _ | apply Drawn0.step)⟩
    · rw [if_neg c7] at H
      have c7b0 : decide (0 < a1) = false := decide_eq_false c7
      clear c7
      simp only [Option.some.injEq, Prod.mk.injEq] at H
      obtain ⟨rfl, rfl⟩ := H
      go_enter Try.func52, Try.ntmps52
      go_wp2
      go_ret2
      exact ⟨by first | rfl | (simp; done) | (simp [*]; done), by repeat (first | exact Drawn0.refl _ | apply Drawn0.step)⟩
mutual
def rescindref01_Mul.j0 : Nat → Int → Int → Bool → Option (Int × Int)
  | 0, _, _, _ => none
  | k + 1, x0, x1, x12 => if x12 = true then (some (0, 0)) else (if x0 = (-1) then (if x1 = (-9223372036854775808) then (rescindref01_Mul.j1 k x0 x1 true) else (if x1 = (-1) then (rescindref01_Mul.j1 k x0 x1 (x0 == (-9223372036854775808))) else (rescindref01_Mul.j1 k x0 x1 false))) else (if x1 = (-1) then (rescindref01_Mul.j1 k x0 x1 (x0 == (-9223372036854775808))) else (rescindref01_Mul.j1 k x0 x1 false)))
def rescindref01_Mul.j1 : Nat → Int → Int → Bool → Option (Int × Int)
  | 0, _, _, _ => none
  | k + 1, x0, x1, x26 => if x26 = true then (some (0, 10)) else (if x1 = 0 then (none) else (if (wrap64 (Int.tdiv (wrap64 (x0 * x1)) x1)) = x0 then (some (wrap64 (x0 * x1), 0)) else (some (0, 10))))
end
def rescindref01_Mul.f (k : Nat) (a0 : Int) (a1 : Int) : Option (Int × Int) := if a0 = 0 then (rescindref01_Mul.j0 k a0 a1 true) else (rescindref01_Mul.j0 k a0 a1 (a1 == 0))
theorem rescindref01_Mul.mono_l : ∀ k, (∀ y0 y1 y2, LeO (rescindref01_Mul.j0 k y0 y1 y2) (rescindref01_Mul.j0 (k + 1) y0 y1 y2)) ∧ (∀ y0 y1 y2, LeO (rescindref01_Mul.j1 k y0 y1 y2) (rescindref01_Mul.j1 (k + 1) y0 y1 y2))
  | 0 => ⟨fun _ _ _ r h => by simp [rescindref01_Mul.j0] at h, fun _ _ _ r h => by simp [rescindref01_Mul.j1] at h⟩
  | k + 1 => by
    obtain ⟨ih0, ih1⟩ := rescindref01_Mul.mono_l k
    refine ⟨?_, ?_⟩
    · intro y0 y1 y2
      unfold rescindref01_Mul.j0
      repeat' first
      | (with_reducible exact ih0 _ _ _)
      | (with_reducible exact ih1 _ _ _)
      | (with_reducible exact LeO.refl _)
      | (with_reducible exact LeO.none _)
      | (with_reducible refine LeO.ite ?_ ?_)
      | (with_reducible refine LeO.bind ?_ (fun _ => ?_))
      | exact ih0 _ _ _
      | exact ih1 _ _ _
      | exact LeO.none _
      | refine LeO.ite ?_ ?_
      | refine LeO.bind ?_ (fun _ => ?_)
    · intro y0 y1 y2
      unfold rescindref01_Mul.j1
      repeat' first
      | (with_reducible exact ih0 _ _ _)
      | (with_reducible exact ih1 _ _ _)
      | (with_reducible exact LeO.refl _)
      | (with_reducible exact LeO.none _)
      | (with_reducible refine LeO.ite ?_ ?_)
      | (with_reducible refine LeO.bind ?_ (fun _ => ?_))
      | exact ih0 _ _ _
      | exact ih1 _ _ _
      | exact LeO.none _
      | refine LeO.ite ?_ ?_
      | refine LeO.bind ?_ (fun _ => ?_)
theorem rescindref01_Mul.mono : ∀ a0 a1 k, LeO (rescindref01_Mul.f k a0 a1) (rescindref01_Mul.f (k + 1) a0 a1) := by
  intro a0 a1 k
  obtain ⟨ih0, ih1⟩ := rescindref01_Mul.mono_l k
  unfold rescindref01_Mul.f
  repeat' first
      | (with_reducible exact ih0 _ _ _)
      | (with_reducible exact ih1 _ _ _)
      | (with_reducible exact LeO.refl _)
      | (with_reducible exact LeO.none _)
      | (with_reducible refine LeO.ite ?_ ?_)
      | (with_reducible refine LeO.bind ?_ (fun _ => ?_))
      | exact ih0 _ _ _
      | exact ih1 _ _ _
      | exact LeO.none _
      | refine LeO.ite ?_ ?_
      | refine LeO.bind ?_ (fun _ => ?_)
set_option maxHeartbeats 8000000 in
set_option maxRecDepth 100000 in
theorem rescindref01_Mul.calls (k : Nat) (a0 : Int) (a1 : Int) (r1 : Int) (r2 : Int) (w : World) (h : rescindref01_Mul.f k a0 a1 = some (r1, r2)) :
    Calls Try.prog 53 #[.int .i64 a0, .int .i64 a1] w fun e w' => e = .returned (.tuple #[.int .i64 r1, .int .i64 r2]) ∧ Drawn0 w w' := by
  have H : (if a0 = 0 then (rescindref01_Mul.j0 k a0 a1 true) else (rescindref01_Mul.j0 k a0 a1 (a1 == 0))) = some (r1, r2) := h
  clear h
  have HC3 := Aside0.mk H
  clear H
  go_enter Try.func53, Try.ntmps53
  go_upto_region 1 with (fail)
  go_cut [12] (fun v12 wc => ∃ (kq : Nat) (x12_2 : Bool), v12 = .bool x12_2 ∧ Aside0 (rescindref01_Mul.j0 kq a0 a1 x12_2 = some (r1, r2)) ∧ Aside0 (kq ≤ k) ∧ Drawn0 w wc)
  case first =>
    have H := HC3.out
    clear HC3
    by_cases c4 : a0 = 0
    · rw [if_pos c4] at H
      have c4b0 : (a0 == 0) = true := beq_iff_eq.mpr c4
      have c4b1 : (a0 != 0) = false := bne_eq_false_iff_eq.mpr c4
      clear c4
      (first | rw [c4b0] | (simp only [i64_w, i32_w]; rw [c4b0]) | skip)
      have H' := Aside0.mk H
      clear H
      go_wp2
      go_meet
      case rel => exact ⟨_, (true), (by first | rfl | (simp; done) | (simp [*]; done)), H', ⟨by first | omega | exact Nat.le_refl _⟩, by repeat (first | exact Drawn0.refl _ | apply Drawn0.step)⟩
    · rw [if_neg c4] at H
      have c4b0 : (a0 == 0) = false := beq_eq_false_iff_ne.mpr c4
      have c4b1 : (a0 != 0) = true := bne_iff_ne.mpr c4
      (first | rw [c4b0] | (simp only [i64_w, i32_w]; rw [c4b0]) | skip)
      have H' := Aside0.mk H
      clear H
      go_wp2
      go_meet
      case rel => exact ⟨_, ((a1 == 0)), (by first | rfl | (simp; done) | (simp [*]; done)), H', ⟨by first | omega | exact Nat.le_refl _⟩, by repeat (first | exact Drawn0.refl _ | apply Drawn0.step)⟩
  case rest =>
    clear HC3
    try clear p2
    try clear c4
    try clear c4b0
    try clear c4b1
    obtain ⟨kq, x12_2, rfl, HA, HJ2, ⟨mc2, rfl⟩⟩ := hcut
    cases kq with
    | zero => exact absurd HA.out (by simp [rescindref01_Mul.j0])
    | succ kj2 =>
      have H := HA.out
      clear HA
      simp only [rescindref01_Mul.j0] at H
      by_cases c5 : x12_2 = true
      · subst c5
        have H1 : (some (0, 0)) = some (r1, r2) := by rw [if_pos rfl] at H; exact H
        clear H
        have H := H1
        clear H1
        simp only [Option.some.injEq, Prod.mk.injEq] at H
        obtain ⟨rfl, rfl⟩ := H
        go_wp2
        go_ret2
        exact ⟨by first | rfl | (simp; done) | (simp [*]; done), by repeat (first | exact Drawn0.refl _ | apply Drawn0.step)⟩
      · replace c5 := Bool.eq_false_iff.mpr c5
        subst c5
        have H1 : (if a0 = (-1) then (if a1 = (-9223372036854775808) then (rescindref01_Mul.j1 kj2 a0 a1 true) else (if a1 = (-1) then (rescindref01_Mul.j1 kj2 a0 a1 (a0 == (-9223372036854775808))) else (rescindref01_Mul.j1 kj2 a0 a1 false))) else (if a1 = (-1) then (rescindref01_Mul.j1 kj2 a0 a1 (a0 == (-9223372036854775808))) else (rescindref01_Mul.j1 kj2 a0 a1 false))) = some (r1, r2) := by rw [if_neg (show ¬ (false = true) by decide)] at H; exact H
        clear H
        have H := H1
        clear H1
        have HC6 := Aside0.mk H
        clear H
        go_upto_region 3 with (fail)
        go_cut [26] (fun v26 wc => ∃ (kq : Nat) (x26_5 : Bool), v26 = .bool x26_5 ∧ Aside0 (rescindref01_Mul.j1 kq a0 a1 x26_5 = some (r1, r2)) ∧ Aside0 (kq ≤ kj2) ∧ Drawn0 w wc)
        case first =>
          have H := HC6.out
          clear HC6
          by_cases c7 : a0 = (-1)
          · rw [if_pos c7] at H
            have c7b0 : (a0 == (-1)) = true := beq_iff_eq.mpr c7
            have c7b1 : (a0 != (-1)) = false := bne_eq_false_iff_eq.mpr c7
            clear c7
            (first | rw [c7b0] | (simp only [i64_w, i32_w]; rw [c7b0]) | skip)
            by_cases c8 : a1 = (-9223372036854775808)
            · rw [if_pos c8] at H
              have c8b0 : (a1 == (-9223372036854775808)) = true := beq_iff_eq.mpr c8
              have c8b1 : (a1 != (-9223372036854775808)) = false := bne_eq_false_iff_eq.mpr c8
              clear c8
              have H' := Aside0.mk H
              clear H
              go_wp2
              go_meet
              case rel => exact ⟨_, (true), (by first | rfl | (simp; done) | (simp [*]; done)), H', ⟨by have := HJ2.out; first | omega | exact Nat.le_refl _⟩, by repeat (first | exact Drawn0.refl _ | apply Drawn0.step)⟩
            · rw [if_neg c8] at H
              have c8b0 : (a1 == (-9223372036854775808)) = false := beq_eq_false_iff_ne.mpr c8
              have c8b1 : (a1 != (-9223372036854775808)) = true := bne_iff_ne.mpr c8
              by_cases c9 : a1 = (-1)
              · rw [if_pos c9] at H
                have c9b0 : (a1 == (-1)) = true := beq_iff_eq.mpr c9
                have c9b1 : (a1 != (-1)) = false := bne_eq_false_iff_eq.mpr c9
                clear c9
                have H' := Aside0.mk H
                clear H
                go_wp2
                go_meet
                case rel => exact ⟨_, ((a0 == (-9223372036854775808))), (by first | rfl | (simp; done) | (simp [*]; done)), H', ⟨by have := HJ2.out; first | omega | exact Nat.le_refl _⟩, by repeat (first | exact Drawn0.refl _ | apply Drawn0.step)⟩
              · rw [if_neg c9] at H
                have c9b0 : (a1 == (-1)) = false := beq_eq_false_iff_ne.mpr c9
                have c9b1 : (a1 != (-1)) = true := bne_iff_ne.mpr c9
                have H' := Aside0.mk H
                clear H
                go_wp2
                go_meet
                case rel => exact ⟨_, (false), (by first | rfl | (simp; done) | (simp [*]; done)), H', ⟨by have := HJ2.out; first | omega | exact Nat.le_refl _⟩, by repeat (first | exact Drawn0.refl _ | apply Drawn0.step)⟩
          · rw [if_neg c7] at H
            have c7b0 : (a0 == (-1)) = false := beq_eq_false_iff_ne.mpr c7
            have c7b1 : (a0 != (-1)) = true := bne_iff_ne.mpr c7
            (first | rw [c7b0] | (simp only [i64_w, i32_w]; rw [c7b0]) | skip)
            by_cases c10 : a1 = (-1)
            · rw [if_pos c10] at H
              have c10b0 : (a1 == (-1)) = true := beq_iff_eq.mpr c10
              have c10b1 : (a1 != (-1)) = false := bne_eq_false_iff_eq.mpr c10
              clear c10
              have H' := Aside0.mk H
              clear H
              go_wp2
              go_meet
              case rel => exact ⟨_, ((a0 == (-9223372036854775808))), (by first | rfl | (simp; done) | (simp [*]; done)), H', ⟨by have := HJ2.out; first | omega | exact Nat.le_refl _⟩, by repeat (first | exact Drawn0.refl _ | apply Drawn0.step)⟩
            · rw [if_neg c10] at H
              have c10b0 : (a1 == (-1)) = false := beq_eq_false_iff_ne.mpr c10
              have c10b1 : (a1 != (-1)) = true := bne_iff_ne.mpr c10
              have H' := Aside0.mk H
              clear H
              go_wp2
              go_meet
              case rel => exact ⟨_, (false), (by first | rfl | (simp; done) | (simp [*]; done)), H', ⟨by have := HJ2.out; first | omega | exact Nat.le_refl _⟩, by repeat (first | exact Drawn0.refl _ | apply Drawn0.step)⟩
        case rest =>
          clear HC6
          try clear c1
          try clear c2
          try clear p2
          try clear c4
          try clear c4b0
          try clear c4b1
          try clear c5
          try clear c7
          try clear c7b0
          try clear c7b1
          try clear c8
          try clear c8b0
          try clear c8b1
          try clear c9
          try clear c9b0
          try clear c9b1
          try clear c10
          try clear c10b0
          try clear c10b1
          try clear p2
          obtain ⟨kq, x26_5, rfl, HA, HJ5, ⟨mc5, rfl⟩⟩ := hcut
          cases kq with
          | zero => exact absurd HA.out (by simp [rescindref01_Mul.j1])
          | succ kj5 =>
            have H := HA.out
            clear HA
            simp only [rescindref01_Mul.j1] at H
            by_cases c11 : x26_5 = true
            · subst c11
              have H1 : (some (0, 10)) = some (r1, r2) := by rw [if_pos rfl] at H; exact H
              clear H
              have H := H1
              clear H1
              simp only [Option.some.injEq, Prod.mk.injEq] at H
              obtain ⟨rfl, rfl⟩ := H
              go_wp2
              go_ret2
              exact ⟨by first | rfl | (simp; done) | (simp [*]; done), by repeat (first | exact Drawn0.refl _ | apply Drawn0.step)⟩
            · replace c11 := Bool.eq_false_iff.mpr c11
              subst c11
              have H1 : (if a1 = 0 then (none) else (if (wrap64 (Int.tdiv (wrap64 (a0 * a1)) a1)) = a0 then (some (wrap64 (a0 * a1), 0)) else (some (0, 10)))) = some (r1, r2) := by rw [if_neg (show ¬ (false = true) by decide)] at H; exact H
              clear H
              have H := H1
              clear H1
              by_cases c12 : a1 = 0
              · rw [if_pos c12] at H
                exact absurd H (by simp)
              · rw [if_neg c12] at H
                have c12b0 : (a1 == 0) = false := beq_eq_false_iff_ne.mpr c12
                have c12b1 : (a1 != 0) = true := bne_iff_ne.mpr c12
                by_cases c13 : (wrap64 (Int.tdiv (wrap64 (a0 * a1)) a1)) = a0
                · rw [if_pos c13] at H
                  have c13b0 : ((wrap64 (Int.tdiv (wrap64 (a0 * a1)) a1)) == a0) = true := beq_iff_eq.mpr c13
                  have c13b1 : ((wrap64 (Int.tdiv (wrap64 (a0 * a1)) a1)) != a0) = false := bne_eq_false_iff_eq.mpr c13
                  clear c13
                  simp only [Option.some.injEq, Prod.mk.injEq] at H
                  obtain ⟨rfl, rfl⟩ := H
                  go_wp2
                  go_ret2
                  exact ⟨by first | rfl | (simp; done) | (simp [*]; done), by repeat (first | exact Drawn0.refl _ | apply Drawn0.step)⟩
                · rw [if_neg c13] at H
                  have c13b0 : ((wrap64 (Int.tdiv (wrap64 (a0 * a1)) a1)) == a0) = false := beq_eq_false_iff_ne.mpr c13
                  have c13b1 : ((wrap64 (Int.tdiv (wrap64 (a0 * a1)) a1)) != a0) = true := bne_iff_ne.mpr c13
                  simp only [Option.some.injEq, Prod.mk.injEq] at H
                  obtain ⟨rfl, rfl⟩ := H
                  go_wp2
                  go_ret2
                  exact ⟨by first | rfl | (simp; done) | (simp [*]; done), by repeat (first | exact Drawn0.refl _ | apply Drawn0.step)⟩
def rescindref01_Quo.f (a0 : Int) (a1 : Int) : Option (Int × Int) := if a1 = 0 then (some (0, 11)) else (if a0 = (-9223372036854775808) then (if a1 = (-1) then (some (0, 10)) else (some (wrap64 (Int.tdiv a0 a1), 0))) else (some (wrap64 (Int.tdiv a0 a1), 0)))
set_option maxHeartbeats 8000000 in
set_option maxRecDepth 100000 in
theorem rescindref01_Quo.calls (a0 : Int) (a1 : Int) (r1 : Int) (r2 : Int) (w : World) (h : rescindref01_Quo.f a0 a1 = some (r1, r2)) :
    Calls Try.prog 54 #[.int .i64 a0, .int .i64 a1] w fun e w' => e = .returned (.tuple #[.int .i64 r1, .int .i64 r2]) ∧ Drawn0 w w' := by
  have H : (if a1 = 0 then (some (0, 11)) else (if a0 = (-9223372036854775808) then (if a1 = (-1) then (some (0, 10)) else (some (wrap64 (Int.tdiv a0 a1), 0))) else (some (wrap64 (Int.tdiv a0 a1), 0)))) = some (r1, r2) := h
  clear h
  by_cases c3 : a1 = 0
  · rw [if_pos c3] at H
    have c3b0 : (a1 == 0) = true := beq_iff_eq.mpr c3
    have c3b1 : (a1 != 0) = false := bne_eq_false_iff_eq.mpr c3
    clear c3
    simp only [Option.some.injEq, Prod.mk.injEq] at H
    obtain ⟨rfl, rfl⟩ := H
    go_enter Try.func54, Try.ntmps54
    go_wp2
    go_ret2
    exact ⟨by first | rfl | (simp; done) | (simp [*]; done), by repeat (first | exact Drawn0.refl _ | apply Drawn0.step)⟩
  · rw [if_neg c3] at H
    have c3b0 : (a1 == 0) = false := beq_eq_false_iff_ne.mpr c3
    have c3b1 : (a1 != 0) = true := bne_iff_ne.mpr c3
    by_cases c4 : a0 = (-9223372036854775808)
    · rw [if_pos c4] at H
      have c4b0 : (a0 == (-9223372036854775808)) = true := beq_iff_eq.mpr c4
      have c4b1 : (a0 != (-9223372036854775808)) = false := bne_eq_false_iff_eq.mpr c4
      clear c4
      by_cases c5 : a1 = (-1)
      · rw [if_pos c5] at H
        have c5b0 : (a1 == (-1)) = true := beq_iff_eq.mpr c5
        have c5b1 : (a1 != (-1)) = false := bne_eq_false_iff_eq.mpr c5
        clear c5
        simp only [Option.some.injEq, Prod.mk.injEq] at H
        obtain ⟨rfl, rfl⟩ := H
        go_enter Try.func54, Try.ntmps54
        go_wp2
        go_ret2
        exact ⟨by first | rfl | (simp; done) | (simp [*]; done), by repeat (first | exact Drawn0.refl _ | apply Drawn0.step)⟩
      · rw [if_neg c5] at H
        have c5b0 : (a1 == (-1)) = false := beq_eq_false_iff_ne.mpr c5
        have c5b1 : (a1 != (-1)) = true := bne_iff_ne.mpr c5
        simp only [Option.some.injEq, Prod.mk.injEq] at H
        obtain ⟨rfl, rfl⟩ := H
        go_enter Try.func54, Try.ntmps54
        go_wp2
        go_ret2
        exact ⟨by first | rfl | (simp; done) | (simp [*]; done), by repeat (first | exact Drawn0.refl _ | apply Drawn0.step)⟩
    · rw [if_neg c4] at H
      have c4b0 : (a0 == (-9223372036854775808)) = false := beq_eq_false_iff_ne.mpr c4
      have c4b1 : (a0 != (-9223372036854775808)) = true := bne_iff_ne.mpr c4
      simp only [Option.some.injEq, Prod.mk.injEq] at H
      obtain ⟨rfl, rfl⟩ := H
      go_enter Try.func54, Try.ntmps54
      go_wp2
      go_ret2
      exact ⟨by first | rfl | (simp; done) | (simp [*]; done), by repeat (first | exact Drawn0.refl _ | apply Drawn0.step)⟩
def rescindref01_Rem.f (a0 : Int) (a1 : Int) : Option (Int × Int) := if a1 = 0 then (some (0, 11)) else (if a1 = (-1) then (some (0, 0)) else (some (Int.tmod a0 a1, 0)))
set_option maxHeartbeats 8000000 in
set_option maxRecDepth 100000 in
theorem rescindref01_Rem.calls (a0 : Int) (a1 : Int) (r1 : Int) (r2 : Int) (w : World) (h : rescindref01_Rem.f a0 a1 = some (r1, r2)) :
    Calls Try.prog 55 #[.int .i64 a0, .int .i64 a1] w fun e w' => e = .returned (.tuple #[.int .i64 r1, .int .i64 r2]) ∧ Drawn0 w w' := by
  have H : (if a1 = 0 then (some (0, 11)) else (if a1 = (-1) then (some (0, 0)) else (some (Int.tmod a0 a1, 0)))) = some (r1, r2) := h
  clear h
  by_cases c3 : a1 = 0
  · rw [if_pos c3] at H
    have c3b0 : (a1 == 0) = true := beq_iff_eq.mpr c3
    have c3b1 : (a1 != 0) = false := bne_eq_false_iff_eq.mpr c3
    clear c3
    simp only [Option.some.injEq, Prod.mk.injEq] at H
    obtain ⟨rfl, rfl⟩ := H
    go_enter Try.func55, Try.ntmps55
    go_wp2
    go_ret2
    exact ⟨by first | rfl | (simp; done) | (simp [*]; done), by repeat (first | exact Drawn0.refl _ | apply Drawn0.step)⟩
  · rw [if_neg c3] at H
    have c3b0 : (a1 == 0) = false := beq_eq_false_iff_ne.mpr c3
    have c3b1 : (a1 != 0) = true := bne_iff_ne.mpr c3
    by_cases c4 : a1 = (-1)
    · rw [if_pos c4] at H
      have c4b0 : (a1 == (-1)) = true := beq_iff_eq.mpr c4
      have c4b1 : (a1 != (-1)) = false := bne_eq_false_iff_eq.mpr c4
      clear c4
      simp only [Option.some.injEq, Prod.mk.injEq] at H
      obtain ⟨rfl, rfl⟩ := H
      go_enter Try.func55, Try.ntmps55
      go_wp2
      go_ret2
      exact ⟨by first | rfl | (simp; done) | (simp [*]; done), by repeat (first | exact Drawn0.refl _ | apply Drawn0.step)⟩
    · rw [if_neg c4] at H
      have c4b0 : (a1 == (-1)) = false := beq_eq_false_iff_ne.mpr c4
      have c4b1 : (a1 != (-1)) = true := bne_iff_ne.mpr c4
      simp only [Option.some.injEq, Prod.mk.injEq] at H
      obtain ⟨rfl, rfl⟩ := H
      go_enter Try.func55, Try.ntmps55
      go_wp2
      go_ret2
      exact ⟨by first | rfl | (simp; done) | (simp [*]; done), by repeat (first | exact Drawn0.refl _ | apply Drawn0.step)⟩
theorem ref_truth (b : Bool) (w : World) : Calls Try.prog 48 #[.bool b] w fun e w' => e = .returned (.tuple #[.agg #[.int .i64 1, .int .i64 (tv b), .string ⟨#[]⟩], .int .i64 0]) ∧ Below w.heap.size w w' := by
  refine rescindref18_truth.calls b 1 (tv b) ⟨#[]⟩ 0 w ?_
  cases b <;> rfl
def numR (r : Int × Int) : Int × Int × ByteArray × Int := if r.2 = 0 then (1, r.1, ⟨#[]⟩, 0) else (0, 0, ⟨#[]⟩, r.2)
theorem ref_number (n e : Int) (w : World) : Calls Try.prog 50 #[.int .i64 n, .int .i64 e] w fun x w' => x = .returned (.tuple #[.agg #[.int .i64 (numR (n, e)).1, .int .i64 (numR (n, e)).2.1, .string (numR (n, e)).2.2.1], .int .i64 (numR (n, e)).2.2.2]) ∧ Below w.heap.size w w' := by
  refine rescindref18_number.calls n e _ _ _ _ w ?_
  unfold rescindref18_number.f numR
  by_cases h : e = 0
  · rw [if_pos h, if_pos h]; rfl
  · rw [if_neg h, if_neg h]
theorem ref_text (t : ByteArray) (w : World) : Calls Try.prog 49 #[.string t] w fun e w' => e = .returned (.agg #[.int .i64 2, .int .i64 0, .string t]) ∧ Below w.heap.size w w' :=
  rescindref05_Text.calls t 2 0 t w rfl
def OutV (r : Int × Int × ByteArray × Int) (e : Ending) : Prop := e = .returned (.tuple #[.agg #[.int .i64 r.1, .int .i64 r.2.1, .string r.2.2.1], .int .i64 r.2.2.2])
abbrev twoArgs (c a0 a1 : Int) (a2 : ByteArray) (b0 b1 : Int) (b2 : ByteArray) : Array Value := #[.int .i64 c, .agg #[.int .i64 a0, .int .i64 a1, .string a2], .agg #[.int .i64 b0, .int .i64 b1, .string b2]]
theorem below3 {w : World} (o1 o2 o3 : Obj) : Below w.heap.size w (((w.alloc o1).alloc o2).alloc o3) :=
  (((Below.refl _ _).alloc (Nat.le_refl _) _).alloc (by simp) _).alloc (by simp; omega) _
theorem below_set3 {B : Nat} {w w' : World} (h : Below B w w') (g : Nat) (hg : B ≤ g) (v0 v1 v2 : Value) : Below B w (((w'.setCell ⟨g, 0, none⟩ v0).setCell ⟨g, 1, none⟩ v1).setCell ⟨g, 2, none⟩ v2) :=
  ((h.setCell (p := ⟨g, 0, none⟩) hg _).setCell (p := ⟨g, 1, none⟩) hg _).setCell (p := ⟨g, 2, none⟩) hg _
set_option maxRecDepth 100000 in
set_option maxHeartbeats 1000000 in
theorem two_kind (c a0 a1 b0 b1 : Int) (a2 b2 : ByteArray) (w : World) (h : (a0 != b0) = true) :
    Calls Try.prog 37 #[.int .i64 c, .agg #[.int .i64 a0, .int .i64 a1, .string a2], .agg #[.int .i64 b0, .int .i64 b1, .string b2]] w fun e w' => OutV (0, 0, ⟨#[]⟩, 12) e ∧ Below w.heap.size w w' := by
  go_enter Try.func37, Try.ntmps37
  go_wp2
  exact bodyPost_ret (v := .tuple #[.agg #[.int .i64 0, .int .i64 0, .string ⟨#[]⟩], .int .i64 12]) (by simp [results, Try.results37, go_sem]) rfl ⟨rfl, below3 _ _ _⟩
theorem below_dn {w1 w3 : World} {nd : Nat} (h : Below (w1.drewN nd).heap.size (w1.drewN nd) w3) : Below w1.heap.size w1 w3 := (pw_below_drewN (Below.refl _ w1) nd).trans h
structure Bx (g : Nat) (w : World) (x0 x1 x2 : Value) : Prop where
  c0 : w.cell? ⟨g, 0, none⟩ = some x0
  c1 : w.cell? ⟨g, 1, none⟩ = some x1
  c2 : w.cell? ⟨g, 2, none⟩ = some x2
  z0 : w.frozen? ⟨g, 0, none⟩ = false
  z1 : w.frozen? ⟨g, 1, none⟩ = false
  z2 : w.frozen? ⟨g, 2, none⟩ = false
  lt : g < w.heap.size
theorem Bx.below {g : Nat} {w w' : World} {x0 x1 x2 : Value} (h : Bx g w x0 x1 x2) (hb : Below w.heap.size w w') : Bx g w' x0 x1 x2 := by
  obtain ⟨c0, c1, c2, z0, z1, z2, lt⟩ := h
  obtain ⟨hh, hz⟩ := g_bcell hb
  exact ⟨(hh _ _ lt).trans c0, (hh _ _ lt).trans c1, (hh _ _ lt).trans c2, (hz _ _ lt).trans z0, (hz _ _ lt).trans z1, (hz _ _ lt).trans z2, Nat.lt_of_lt_of_le lt hb.size⟩
theorem bx3 (w : World) (x0 x1 x2 y0 y1 y2 z0 z1 z2 : Value) (t1 t2 t3 : TypeId) (W : World) (hW : ((w.alloc (Obj.cells #[x0, x1, x2] t1)).alloc (Obj.cells #[y0, y1, y2] t2)).alloc (Obj.cells #[z0, z1, z2] t3) = W) :
    Bx w.heap.size W x0 x1 x2 ∧ Bx (w.heap.size + 1) W y0 y1 y2 ∧ Bx (w.heap.size + 1 + 1) W z0 z1 z2 := by
  subst hW
  refine ⟨⟨?_, ?_, ?_, ?_, ?_, ?_, ?_⟩, ⟨?_, ?_, ?_, ?_, ?_, ?_, ?_⟩, ⟨?_, ?_, ?_, ?_, ?_, ?_, ?_⟩⟩
  all_goals first | (simp [go_sem]; done) | (simp; omega)
abbrev CmpC (a0 a1 : Int) (a2 : ByteArray) (b0 b1 : Int) (b2 : ByteArray) (n : Int) : Prop := ∀ w, Calls Try.prog 47 #[.agg #[.int .i64 a0, .int .i64 a1, .string a2], .agg #[.int .i64 b0, .int .i64 b1, .string b2]] w fun e w' => e = .returned (.int .i64 n) ∧ Below w.heap.size w w'
def CmpIs (c n : Int) (b : Bool) : Prop := (c = 13 ∧ (n == 0) = b) ∨ (c = 14 ∧ (n != 0) = b) ∨ (c = 15 ∧ decide (n < 0) = b) ∨ (c = 16 ∧ decide (n ≤ 0) = b) ∨ (c = 17 ∧ decide (0 < n) = b) ∨ (c = 18 ∧ decide (0 ≤ n) = b)
set_option maxRecDepth 100000 in
set_option maxHeartbeats 1000000 in
theorem two_cmp (c a0 a1 b0 b1 n : Int) (a2 b2 : ByteArray) (w : World) (b : Bool) (h : (a0 != b0) = false) (HC : Hid (CmpC a0 a1 a2 b0 b1 b2 n)) (hn : CmpIs c n b) :
    Calls Try.prog 37 #[.int .i64 c, .agg #[.int .i64 a0, .int .i64 a1, .string a2], .agg #[.int .i64 b0, .int .i64 b1, .string b2]] w fun e w' => OutV (1, tv b, ⟨#[]⟩, 0) e ∧ Below w.heap.size w w' := by
  cases b
  · rcases hn with ⟨rfl, hn⟩ | ⟨rfl, hn⟩ | ⟨rfl, hn⟩ | ⟨rfl, hn⟩ | ⟨rfl, hn⟩ | ⟨rfl, hn⟩
    all_goals
      go_enter Try.func37, Try.ntmps37
      go_wp2_with (first
        | (go_at_call 47; ((with_reducible refine (HC.out _).mono ?_); rintro e w1 ⟨rfl, hb1⟩; obtain ⟨bA, bB, bR⟩ := bx3 w _ _ _ _ _ _ _ _ _ _ _ _ _ rfl; obtain ⟨pa0, pa1, pa2, qa0, qa1, qa2, _⟩ := bA.below hb1; obtain ⟨pb0, pb1, pb2, qb0, qb1, qb2, _⟩ := bB.below hb1; replace bR := Lib.hid (bR.below hb1); obtain ⟨pr0, pr1, pr2, qr0, qr1, qr2, _⟩ := bR.out; clear bA bB; replace hb1 := Lib.hid ((below3 _ _ _).trans (hb1.mono (by simp; omega)))))
        | (go_at_call 48; ((with_reducible refine (ref_truth _ _).mono ?_); rintro e w2 ⟨rfl, hb2⟩; clear pr0 pr1 pr2 qr0 qr1 qr2; obtain ⟨pr0, pr1, pr2, qr0, qr1, qr2, _⟩ := bR.out.below hb2; replace hb2 := Lib.hid (g_bel hb1.out hb2))))
      exact bodyPost_ret (v := .tuple #[.agg #[.int .i64 1, .int .i64 (tv false), .string ⟨#[]⟩], .int .i64 0]) (by simp [results, Try.results37, go_sem, *]) rfl ⟨rfl, below_set3 hb2.out _ (by omega) _ _ _⟩
  · rcases hn with ⟨rfl, hn⟩ | ⟨rfl, hn⟩ | ⟨rfl, hn⟩ | ⟨rfl, hn⟩ | ⟨rfl, hn⟩ | ⟨rfl, hn⟩
    all_goals
      go_enter Try.func37, Try.ntmps37
      go_wp2_with (first
        | (go_at_call 47; ((with_reducible refine (HC.out _).mono ?_); rintro e w1 ⟨rfl, hb1⟩; obtain ⟨bA, bB, bR⟩ := bx3 w _ _ _ _ _ _ _ _ _ _ _ _ _ rfl; obtain ⟨pa0, pa1, pa2, qa0, qa1, qa2, _⟩ := bA.below hb1; obtain ⟨pb0, pb1, pb2, qb0, qb1, qb2, _⟩ := bB.below hb1; replace bR := Lib.hid (bR.below hb1); obtain ⟨pr0, pr1, pr2, qr0, qr1, qr2, _⟩ := bR.out; clear bA bB; replace hb1 := Lib.hid ((below3 _ _ _).trans (hb1.mono (by simp; omega)))))
        | (go_at_call 48; ((with_reducible refine (ref_truth _ _).mono ?_); rintro e w2 ⟨rfl, hb2⟩; clear pr0 pr1 pr2 qr0 qr1 qr2; obtain ⟨pr0, pr1, pr2, qr0, qr1, qr2, _⟩ := bR.out.below hb2; replace hb2 := Lib.hid (g_bel hb1.out hb2))))
      exact bodyPost_ret (v := .tuple #[.agg #[.int .i64 1, .int .i64 (tv true), .string ⟨#[]⟩], .int .i64 0]) (by simp [results, Try.results37, go_sem, *]) rfl ⟨rfl, below_set3 hb2.out _ (by omega) _ _ _⟩
set_option maxRecDepth 100000 in
set_option maxHeartbeats 1000000 in
theorem two_mixed (c a0 a1 b0 b1 n : Int) (a2 b2 : ByteArray) (w : World) (p q : Bool) (h : (a0 != b0) = false) (HC : Hid (CmpC a0 a1 a2 b0 b1 b2 n)) (hr : decide (c ≥ 13) = false ∨ decide (c ≥ 13) = true ∧ decide (c ≤ 18) = false) (hp : (c == 12) = p) (hq : (a0 == 2) = q) (hpq : (p = true ∧ q = false) ∨ (p = false ∧ q = true)) :
    Calls Try.prog 37 #[.int .i64 c, .agg #[.int .i64 a0, .int .i64 a1, .string a2], .agg #[.int .i64 b0, .int .i64 b1, .string b2]] w fun e w' => OutV (0, 0, ⟨#[]⟩, 12) e ∧ Below w.heap.size w w' := by
  rcases hpq with ⟨rfl, rfl⟩ | ⟨rfl, rfl⟩
  all_goals
    rcases hr with hr | ⟨hr, hr2⟩
    all_goals
      go_enter Try.func37, Try.ntmps37
      go_wp2_with ((go_at_call 47; ((with_reducible refine (HC.out _).mono ?_); rintro e w1 ⟨rfl, hb1⟩; obtain ⟨bA, bB, bR⟩ := bx3 w _ _ _ _ _ _ _ _ _ _ _ _ _ rfl; obtain ⟨pa0, pa1, pa2, qa0, qa1, qa2, _⟩ := bA.below hb1; obtain ⟨pb0, pb1, pb2, qb0, qb1, qb2, _⟩ := bB.below hb1; replace bR := Lib.hid (bR.below hb1); obtain ⟨pr0, pr1, pr2, qr0, qr1, qr2, _⟩ := bR.out; clear bA bB; replace hb1 := Lib.hid ((below3 _ _ _).trans (hb1.mono (by simp; omega))))))
      exact bodyPost_ret (v := .tuple #[.agg #[.int .i64 0, .int .i64 0, .string ⟨#[]⟩], .int .i64 12]) (by simp [results, Try.results37, go_sem, *]) rfl ⟨rfl, below_set3 hb1.out _ (by omega) _ _ _⟩
set_option maxRecDepth 100000 in
set_option maxHeartbeats 1000000 in
theorem two_cat (a1 b1 n : Int) (a2 b2 : ByteArray) (w : World) (HC : Hid (CmpC 2 a1 a2 2 b1 b2 n)) (hl : decide ((a2.size : Int) + (b2.size : Int) > 64) = false) (hsz : ¬ 9223372036854775807 < a2.size + b2.size) :
    Calls Try.prog 37 #[.int .i64 12, .agg #[.int .i64 2, .int .i64 a1, .string a2], .agg #[.int .i64 2, .int .i64 b1, .string b2]] w fun e w' => OutV (2, 0, a2 ++ b2, 0) e ∧ Below w.heap.size w w' := by
  go_enter Try.func37, Try.ntmps37
  go_wp2_with (first
    | (go_at_call 47; ((with_reducible refine (HC.out _).mono ?_); rintro e w1 ⟨rfl, hb1⟩; obtain ⟨bA, bB, bR⟩ := bx3 w _ _ _ _ _ _ _ _ _ _ _ _ _ rfl; obtain ⟨pa0, pa1, pa2, qa0, qa1, qa2, _⟩ := bA.below hb1; obtain ⟨pb0, pb1, pb2, qb0, qb1, qb2, _⟩ := bB.below hb1; replace bR := Lib.hid (bR.below hb1); obtain ⟨pr0, pr1, pr2, qr0, qr1, qr2, _⟩ := bR.out; clear bA bB; replace hb1 := Lib.hid ((below3 _ _ _).trans (hb1.mono (by simp; omega)))))
    | (go_at_call 49; ((with_reducible refine (ref_text _ _).mono ?_); rintro e w2 ⟨rfl, hb2⟩; clear pr0 pr1 pr2 qr0 qr1 qr2; obtain ⟨pr0, pr1, pr2, qr0, qr1, qr2, _⟩ := bR.out.below hb2; replace hb2 := Lib.hid (g_bel hb1.out hb2))))
  all_goals first | (exfalso; exact hsz (by assumption)) | (exact bodyPost_ret (v := .tuple #[.agg #[.int .i64 2, .int .i64 0, .string (a2 ++ b2)], .int .i64 0]) (by simp [results, Try.results37, go_sem, *]) rfl ⟨rfl, below_set3 hb2.out _ (by omega) _ _ _⟩)
set_option maxRecDepth 100000 in
set_option maxHeartbeats 1000000 in
theorem two_long (a1 b1 n : Int) (a2 b2 : ByteArray) (w : World) (HC : Hid (CmpC 2 a1 a2 2 b1 b2 n)) (hl : decide ((a2.size : Int) + (b2.size : Int) > 64) = true) (hsz : ¬ 9223372036854775807 < a2.size + b2.size) :
    Calls Try.prog 37 #[.int .i64 12, .agg #[.int .i64 2, .int .i64 a1, .string a2], .agg #[.int .i64 2, .int .i64 b1, .string b2]] w fun e w' => OutV (0, 0, ⟨#[]⟩, 6) e ∧ Below w.heap.size w w' := by
  go_enter Try.func37, Try.ntmps37
  go_wp2_with ((go_at_call 47; ((with_reducible refine (HC.out _).mono ?_); rintro e w1 ⟨rfl, hb1⟩; obtain ⟨bA, bB, bR⟩ := bx3 w _ _ _ _ _ _ _ _ _ _ _ _ _ rfl; obtain ⟨pa0, pa1, pa2, qa0, qa1, qa2, _⟩ := bA.below hb1; obtain ⟨pb0, pb1, pb2, qb0, qb1, qb2, _⟩ := bB.below hb1; replace bR := Lib.hid (bR.below hb1); obtain ⟨pr0, pr1, pr2, qr0, qr1, qr2, _⟩ := bR.out; clear bA bB; replace hb1 := Lib.hid ((below3 _ _ _).trans (hb1.mono (by simp; omega))))))
  exact bodyPost_ret (v := .tuple #[.agg #[.int .i64 0, .int .i64 0, .string ⟨#[]⟩], .int .i64 6]) (by simp [results, Try.results37, go_sem, *]) rfl ⟨rfl, below_set3 hb1.out _ (by omega) _ _ _⟩
set_option maxRecDepth 100000 in
set_option maxHeartbeats 1000000 in
theorem two_andor (c a0 a1 b0 b1 n : Int) (a2 b2 : ByteArray) (w : World) (x : Bool) (h : (a0 != b0) = false) (HC : Hid (CmpC a0 a1 a2 b0 b1 b2 n)) (hq : (a0 == 2) = false) (hx : c = 19 ∧ ((a1 != 0) = false ∧ x = false ∨ (a1 != 0) = true ∧ (b1 != 0) = x) ∨ c = 20 ∧ ((a1 != 0) = true ∧ x = true ∨ (a1 != 0) = false ∧ (b1 != 0) = x)) :
    Calls Try.prog 37 #[.int .i64 c, .agg #[.int .i64 a0, .int .i64 a1, .string a2], .agg #[.int .i64 b0, .int .i64 b1, .string b2]] w fun e w' => OutV (1, tv x, ⟨#[]⟩, 0) e ∧ Below w.heap.size w w' := by
  rcases hx with ⟨rfl, ⟨hx, rfl⟩ | ⟨hx, hy⟩⟩ | ⟨rfl, ⟨hx, rfl⟩ | ⟨hx, hy⟩⟩
  · go_enter Try.func37, Try.ntmps37
    go_wp2_with (first
      | (go_at_call 47; ((with_reducible refine (HC.out _).mono ?_); rintro e w1 ⟨rfl, hb1⟩; obtain ⟨bA, bB, bR⟩ := bx3 w _ _ _ _ _ _ _ _ _ _ _ _ _ rfl; obtain ⟨pa0, pa1, pa2, qa0, qa1, qa2, _⟩ := bA.below hb1; obtain ⟨pb0, pb1, pb2, qb0, qb1, qb2, _⟩ := bB.below hb1; replace bR := Lib.hid (bR.below hb1); obtain ⟨pr0, pr1, pr2, qr0, qr1, qr2, _⟩ := bR.out; clear bA bB; replace hb1 := Lib.hid ((below3 _ _ _).trans (hb1.mono (by simp; omega)))))
      | (go_at_call 48; ((with_reducible refine (ref_truth _ _).mono ?_); rintro e w2 ⟨rfl, hb2⟩; clear pr0 pr1 pr2 qr0 qr1 qr2; obtain ⟨pr0, pr1, pr2, qr0, qr1, qr2, _⟩ := bR.out.below hb2; replace hb2 := Lib.hid (g_bel hb1.out hb2))))
    all_goals first | (exact bodyPost_ret (v := .tuple #[.agg #[.int .i64 1, .int .i64 (tv false), .string ⟨#[]⟩], .int .i64 0]) (by simp [results, Try.results37, go_sem, *]) rfl ⟨rfl, below_set3 hb2.out _ (by omega) _ _ _⟩)
  · go_enter Try.func37, Try.ntmps37
    go_wp2_with (first
      | (go_at_call 47; ((with_reducible refine (HC.out _).mono ?_); rintro e w1 ⟨rfl, hb1⟩; obtain ⟨bA, bB, bR⟩ := bx3 w _ _ _ _ _ _ _ _ _ _ _ _ _ rfl; obtain ⟨pa0, pa1, pa2, qa0, qa1, qa2, _⟩ := bA.below hb1; obtain ⟨pb0, pb1, pb2, qb0, qb1, qb2, _⟩ := bB.below hb1; replace bR := Lib.hid (bR.below hb1); obtain ⟨pr0, pr1, pr2, qr0, qr1, qr2, _⟩ := bR.out; clear bA bB; replace hb1 := Lib.hid ((below3 _ _ _).trans (hb1.mono (by simp; omega)))))
      | (go_at_call 48; ((with_reducible refine (ref_truth _ _).mono ?_); rintro e w2 ⟨rfl, hb2⟩; clear pr0 pr1 pr2 qr0 qr1 qr2; obtain ⟨pr0, pr1, pr2, qr0, qr1, qr2, _⟩ := bR.out.below hb2; replace hb2 := Lib.hid (g_bel hb1.out hb2))))
    all_goals first | (exact bodyPost_ret (v := .tuple #[.agg #[.int .i64 1, .int .i64 (tv x), .string ⟨#[]⟩], .int .i64 0]) (by simp [results, Try.results37, go_sem, *]) rfl ⟨rfl, below_set3 hb2.out _ (by omega) _ _ _⟩)
  · go_enter Try.func37, Try.ntmps37
    go_wp2_with (first
      | (go_at_call 47; ((with_reducible refine (HC.out _).mono ?_); rintro e w1 ⟨rfl, hb1⟩; obtain ⟨bA, bB, bR⟩ := bx3 w _ _ _ _ _ _ _ _ _ _ _ _ _ rfl; obtain ⟨pa0, pa1, pa2, qa0, qa1, qa2, _⟩ := bA.below hb1; obtain ⟨pb0, pb1, pb2, qb0, qb1, qb2, _⟩ := bB.below hb1; replace bR := Lib.hid (bR.below hb1); obtain ⟨pr0, pr1, pr2, qr0, qr1, qr2, _⟩ := bR.out; clear bA bB; replace hb1 := Lib.hid ((below3 _ _ _).trans (hb1.mono (by simp; omega)))))
      | (go_at_call 48; ((with_reducible refine (ref_truth _ _).mono ?_); rintro e w2 ⟨rfl, hb2⟩; clear pr0 pr1 pr2 qr0 qr1 qr2; obtain ⟨pr0, pr1, pr2, qr0, qr1, qr2, _⟩ := bR.out.below hb2; replace hb2 := Lib.hid (g_bel hb1.out hb2))))
    all_goals first | (exact bodyPost_ret (v := .tuple #[.agg #[.int .i64 1, .int .i64 (tv true), .string ⟨#[]⟩], .int .i64 0]) (by simp [results, Try.results37, go_sem, *]) rfl ⟨rfl, below_set3 hb2.out _ (by omega) _ _ _⟩)
  · go_enter Try.func37, Try.ntmps37
    go_wp2_with (first
      | (go_at_call 47; ((with_reducible refine (HC.out _).mono ?_); rintro e w1 ⟨rfl, hb1⟩; obtain ⟨bA, bB, bR⟩ := bx3 w _ _ _ _ _ _ _ _ _ _ _ _ _ rfl; obtain ⟨pa0, pa1, pa2, qa0, qa1, qa2, _⟩ := bA.below hb1; obtain ⟨pb0, pb1, pb2, qb0, qb1, qb2, _⟩ := bB.below hb1; replace bR := Lib.hid (bR.below hb1); obtain ⟨pr0, pr1, pr2, qr0, qr1, qr2, _⟩ := bR.out; clear bA bB; replace hb1 := Lib.hid ((below3 _ _ _).trans (hb1.mono (by simp; omega)))))
      | (go_at_call 48; ((with_reducible refine (ref_truth _ _).mono ?_); rintro e w2 ⟨rfl, hb2⟩; clear pr0 pr1 pr2 qr0 qr1 qr2; obtain ⟨pr0, pr1, pr2, qr0, qr1, qr2, _⟩ := bR.out.below hb2; replace hb2 := Lib.hid (g_bel hb1.out hb2))))
    all_goals first | (exact bodyPost_ret (v := .tuple #[.agg #[.int .i64 1, .int .i64 (tv x), .string ⟨#[]⟩], .int .i64 0]) (by simp [results, Try.results37, go_sem, *]) rfl ⟨rfl, below_set3 hb2.out _ (by omega) _ _ _⟩)
set_option maxRecDepth 100000 in
set_option maxHeartbeats 1000000 in
theorem two_nums (c a0 a1 b0 b1 n : Int) (a2 b2 : ByteArray) (r : Int × Int) (fn : Nat) (w : World) (h : (a0 != b0) = false) (HC : Hid (CmpC a0 a1 a2 b0 b1 b2 n)) (hq : (a0 == 2) = false)
    (NC : Hid (∀ w, Calls Try.prog fn #[.int .i64 a1, .int .i64 b1] w fun e w' => e = .returned (.tuple #[.int .i64 r.1, .int .i64 r.2]) ∧ Drawn0 w w'))
    (hc : c = 7 ∧ fn = 51 ∨ c = 8 ∧ fn = 52 ∨ c = 9 ∧ fn = 53 ∨ c = 10 ∧ fn = 54) :
    Calls Try.prog 37 #[.int .i64 c, .agg #[.int .i64 a0, .int .i64 a1, .string a2], .agg #[.int .i64 b0, .int .i64 b1, .string b2]] w fun e w' => OutV (numR r) e ∧ Below w.heap.size w w' := by
  obtain ⟨r1, r2⟩ := r
  rcases hc with ⟨rfl, rfl⟩ | ⟨rfl, rfl⟩ | ⟨rfl, rfl⟩ | ⟨rfl, rfl⟩
  all_goals
    go_enter Try.func37, Try.ntmps37
    go_wp2_with (first
      | (go_at_call 47; ((with_reducible refine (HC.out _).mono ?_); rintro e w1 ⟨rfl, hb1⟩; obtain ⟨bA, bB, bR⟩ := bx3 w _ _ _ _ _ _ _ _ _ _ _ _ _ rfl; obtain ⟨pa0, pa1, pa2, qa0, qa1, qa2, _⟩ := bA.below hb1; obtain ⟨pb0, pb1, pb2, qb0, qb1, qb2, _⟩ := bB.below hb1; replace bR := Lib.hid (bR.below hb1); obtain ⟨pr0, pr1, pr2, qr0, qr1, qr2, _⟩ := bR.out; clear bA bB; replace hb1 := Lib.hid ((below3 _ _ _).trans (hb1.mono (by simp; omega)))))
      | (go_at_call 50; ((with_reducible refine (ref_number _ _ _).mono ?_); rintro e w3 ⟨rfl, hb3⟩; have hb4 := below_dn hb3; clear pr0 pr1 pr2 qr0 qr1 qr2; obtain ⟨pr0, pr1, pr2, qr0, qr1, qr2, _⟩ := bR.out.below hb4; replace hb4 := Lib.hid (g_bel hb1.out hb4)))
      | ((with_reducible refine (NC.out _).mono ?_); rintro e w2 ⟨rfl, ⟨nd, rfl⟩⟩))
    exact bodyPost_ret (v := .tuple #[.agg #[.int .i64 (numR (r1, r2)).1, .int .i64 (numR (r1, r2)).2.1, .string (numR (r1, r2)).2.2.1], .int .i64 (numR (r1, r2)).2.2.2]) (by simp [results, Try.results37, go_sem, *]) rfl ⟨rfl, below_set3 hb4.out _ (by omega) _ _ _⟩
set_option maxRecDepth 100000 in
set_option maxHeartbeats 1000000 in
theorem two_rem (c a0 a1 b0 b1 n : Int) (a2 b2 : ByteArray) (r : Int × Int) (w : World) (h : (a0 != b0) = false) (HC : Hid (CmpC a0 a1 a2 b0 b1 b2 n)) (hq : (a0 == 2) = false) (hr : decide (c ≥ 13) = false ∨ decide (c ≥ 13) = true ∧ decide (c ≤ 18) = false)
    (NC : Hid (∀ w, Calls Try.prog 55 #[.int .i64 a1, .int .i64 b1] w fun e w' => e = .returned (.tuple #[.int .i64 r.1, .int .i64 r.2]) ∧ Drawn0 w w'))
    (h12 : (c == 12) = false) (h19 : (c == 19) = false) (h20 : (c == 20) = false) (h7 : (c == 7) = false) (h8 : (c == 8) = false) (h9 : (c == 9) = false) (h10 : (c == 10) = false) :
    Calls Try.prog 37 #[.int .i64 c, .agg #[.int .i64 a0, .int .i64 a1, .string a2], .agg #[.int .i64 b0, .int .i64 b1, .string b2]] w fun e w' => OutV (numR r) e ∧ Below w.heap.size w w' := by
  obtain ⟨r1, r2⟩ := r
  rcases hr with hr | ⟨hr, hr2⟩
  all_goals
    go_enter Try.func37, Try.ntmps37
    go_wp2_with (first
      | (go_at_call 47; ((with_reducible refine (HC.out _).mono ?_); rintro e w1 ⟨rfl, hb1⟩; obtain ⟨bA, bB, bR⟩ := bx3 w _ _ _ _ _ _ _ _ _ _ _ _ _ rfl; obtain ⟨pa0, pa1, pa2, qa0, qa1, qa2, _⟩ := bA.below hb1; obtain ⟨pb0, pb1, pb2, qb0, qb1, qb2, _⟩ := bB.below hb1; replace bR := Lib.hid (bR.below hb1); obtain ⟨pr0, pr1, pr2, qr0, qr1, qr2, _⟩ := bR.out; clear bA bB; replace hb1 := Lib.hid ((below3 _ _ _).trans (hb1.mono (by simp; omega)))))
      | (go_at_call 50; ((with_reducible refine (ref_number _ _ _).mono ?_); rintro e w3 ⟨rfl, hb3⟩; have hb4 := below_dn hb3; clear pr0 pr1 pr2 qr0 qr1 qr2; obtain ⟨pr0, pr1, pr2, qr0, qr1, qr2, _⟩ := bR.out.below hb4; replace hb4 := Lib.hid (g_bel hb1.out hb4)))
      | ((with_reducible refine (NC.out _).mono ?_); rintro e w2 ⟨rfl, ⟨nd, rfl⟩⟩))
    exact bodyPost_ret (v := .tuple #[.agg #[.int .i64 (numR (r1, r2)).1, .int .i64 (numR (r1, r2)).2.1, .string (numR (r1, r2)).2.2.1], .int .i64 (numR (r1, r2)).2.2.2]) (by simp [results, Try.results37, go_sem, *]) rfl ⟨rfl, below_set3 hb4.out _ (by omega) _ _ _⟩
def rescindref18_two.f (k : Nat) (a0 : Int) (a1_0 : Int) (a1_1 : Int) (a1_2 : ByteArray) (a2_0 : Int) (a2_1 : Int) (a2_2 : ByteArray) : Option (Int × Int × ByteArray × Int) :=
  if a1_0 ≠ a2_0 then some (0, 0, ⟨#[]⟩, 12) else (rescindref05_Compare.f k a1_0 a1_1 a1_2 a2_0 a2_1 a2_2).bind fun n =>
  if 13 ≤ a0 ∧ a0 ≤ 18 then some (1, cmpS a0 n, ⟨#[]⟩, 0) else
  if (a0 = 12 ∧ a1_0 ≠ 2) ∨ (a0 ≠ 12 ∧ a1_0 = 2) then some (0, 0, ⟨#[]⟩, 12) else
  if a0 = 12 then (if a1_2.size + a2_2.size ≤ 64 then some (2, 0, a1_2 ++ a2_2, 0) else if a1_2.size + a2_2.size ≤ 4294967296 then some (0, 0, ⟨#[]⟩, 6) else none) else
  if a0 = 19 then some (1, tv ((a1_1 != 0) && (a2_1 != 0)), ⟨#[]⟩, 0) else
  if a0 = 20 then some (1, tv ((a1_1 != 0) || (a2_1 != 0)), ⟨#[]⟩, 0) else
  if a0 = 7 then (rescindref01_Add.f a1_1 a2_1).map numR else
  if a0 = 8 then (rescindref01_Sub.f a1_1 a2_1).map numR else
  if a0 = 9 then (rescindref01_Mul.f k a1_1 a2_1).map numR else
  if a0 = 10 then (rescindref01_Quo.f a1_1 a2_1).map numR else (rescindref01_Rem.f a1_1 a2_1).map numR
theorem rescindref18_two.mono : ∀ a0 a1_0 a1_1 a1_2 a2_0 a2_1 a2_2 k, LeO (rescindref18_two.f k a0 a1_0 a1_1 a1_2 a2_0 a2_1 a2_2) (rescindref18_two.f (k + 1) a0 a1_0 a1_1 a1_2 a2_0 a2_1 a2_2) := by
  intro a0 a1_0 a1_1 a1_2 a2_0 a2_1 a2_2 k
  unfold rescindref18_two.f
  refine LeO.ite (LeO.refl _) (LeO.bind (rescindref05_Compare.mono _ _ _ _ _ _ k) (fun n => LeO.ite (LeO.refl _) (LeO.ite (LeO.refl _) (LeO.ite (LeO.refl _) (LeO.ite (LeO.refl _) (LeO.ite (LeO.refl _) (LeO.ite (LeO.refl _) (LeO.ite (LeO.refl _) (LeO.ite (LeO.map' (rescindref01_Mul.mono _ _ k) _) (LeO.refl _))))))))))
theorem rescindref18_two.calls (k : Nat) (a0 : Int) (a1_0 : Int) (a1_1 : Int) (a1_2 : ByteArray) (a2_0 : Int) (a2_1 : Int) (a2_2 : ByteArray) (r1 : Int) (r2 : Int) (r3 : ByteArray) (r4 : Int) (w : World) (h : rescindref18_two.f k a0 a1_0 a1_1 a1_2 a2_0 a2_1 a2_2 = some (r1, r2, r3, r4)) :
    Calls Try.prog 37 #[.int .i64 a0, .agg #[.int .i64 a1_0, .int .i64 a1_1, .string a1_2], .agg #[.int .i64 a2_0, .int .i64 a2_1, .string a2_2]] w fun e w' => e = .returned (.tuple #[.agg #[.int .i64 r1, .int .i64 r2, .string r3], .int .i64 r4]) ∧ Below w.heap.size w w' := by
  have main : ∀ r, rescindref18_two.f k a0 a1_0 a1_1 a1_2 a2_0 a2_1 a2_2 = some r → Calls Try.prog 37 #[.int .i64 a0, .agg #[.int .i64 a1_0, .int .i64 a1_1, .string a1_2], .agg #[.int .i64 a2_0, .int .i64 a2_1, .string a2_2]] w fun e w' => OutV r e ∧ Below w.heap.size w w' := by
    clear h
    intro r h
    unfold rescindref18_two.f at h
    split at h
    · rename_i h1
      obtain rfl := Option.some.inj h
      exact two_kind a0 a1_0 a1_1 a2_0 a2_1 a1_2 a2_2 w (bne_iff_ne.2 h1)
    rename_i h1
    have h1 : a1_0 = a2_0 := Decidable.not_not.1 h1
    subst h1
    have hne : (a1_0 != a1_0) = false := by simp
    replace h := Option.bind_eq_some_iff.1 h
    obtain ⟨n, hn, h⟩ := h
    have HC := Lib.hid (fun w => rescindref05_Compare.calls k a1_0 a1_1 a1_2 a1_0 a2_1 a2_2 n w hn)
    clear hn
    split at h
    · rename_i h2
      obtain rfl := Option.some.inj h
      have : ∃ b, CmpIs a0 n b ∧ cmpS a0 n = tv b := by
        unfold CmpIs cmpS
        have : a0 = 13 ∨ a0 = 14 ∨ a0 = 15 ∨ a0 = 16 ∨ a0 = 17 ∨ a0 = 18 := by omega
        rcases this with rfl | rfl | rfl | rfl | rfl | rfl
        · exact ⟨n == 0, by simp, by simp⟩
        · exact ⟨n != 0, by simp, by simp⟩
        · exact ⟨decide (n < 0), by simp, by simp⟩
        · exact ⟨decide (n ≤ 0), by simp, by simp⟩
        · exact ⟨decide (0 < n), by simp, by simp⟩
        · exact ⟨decide (0 ≤ n), by simp, by simp⟩
      obtain ⟨b, hb, e⟩ := this
      rw [e]
      exact two_cmp a0 a1_0 a1_1 a1_0 a2_1 n a1_2 a2_2 w b hne HC hb
    rename_i h2
    have hr : decide (a0 ≥ 13) = false ∨ decide (a0 ≥ 13) = true ∧ decide (a0 ≤ 18) = false := by
      by_cases h : a0 ≥ 13
      · exact .inr ⟨decide_eq_true h, decide_eq_false (fun h' => h2 ⟨h, h'⟩)⟩
      · exact .inl (decide_eq_false h)
    split at h
    · rename_i h3
      obtain rfl := Option.some.inj h
      exact two_mixed a0 a1_0 a1_1 a1_0 a2_1 n a1_2 a2_2 w (a0 == 12) (a1_0 == 2) hne HC hr rfl rfl (by
        rcases h3 with ⟨h, h'⟩ | ⟨h, h'⟩
        · exact .inl ⟨by simpa using h, by simpa using h'⟩
        · exact .inr ⟨by simpa using h, by simpa using h'⟩)
    rename_i h3
    split at h
    · rename_i h4
      subst h4
      have h5 : a1_0 = 2 := by omega
      subst h5
      split at h
      · obtain rfl := Option.some.inj h
        exact two_cat a1_1 a2_1 n a1_2 a2_2 w HC (decide_eq_false (by omega)) (by omega)
      split at h
      · obtain rfl := Option.some.inj h
        exact two_long a1_1 a2_1 n a1_2 a2_2 w HC (decide_eq_true (by omega)) (by omega)
      · simp at h
    rename_i h4
    have hq : (a1_0 == 2) = false := by
      rw [beq_eq_false_iff_ne]; intro e; exact h3 (.inr ⟨h4, e⟩)
    split at h
    · rename_i h5
      obtain rfl := Option.some.inj h
      exact two_andor a0 a1_0 a1_1 a1_0 a2_1 n a1_2 a2_2 w _ hne HC hq (.inl ⟨h5, by cases (a1_1 != 0) <;> simp⟩)
    split at h
    · rename_i h5
      obtain rfl := Option.some.inj h
      exact two_andor a0 a1_0 a1_1 a1_0 a2_1 n a1_2 a2_2 w _ hne HC hq (.inr ⟨h5, by cases (a1_1 != 0) <;> simp⟩)
    rename_i h5 h6
    split at h
    · rename_i h7
      obtain ⟨x, hx, rfl⟩ := Option.map_eq_some_iff.1 h
      exact two_nums a0 a1_0 a1_1 a1_0 a2_1 n a1_2 a2_2 x _ w hne HC hq (Lib.hid fun w => rescindref01_Add.calls _ _ x.1 x.2 w hx) (.inl ⟨h7, rfl⟩)
    split at h
    · rename_i h7
      obtain ⟨x, hx, rfl⟩ := Option.map_eq_some_iff.1 h
      exact two_nums a0 a1_0 a1_1 a1_0 a2_1 n a1_2 a2_2 x _ w hne HC hq (Lib.hid fun w => rescindref01_Sub.calls _ _ x.1 x.2 w hx) (.inr (.inl ⟨h7, rfl⟩))
    split at h
    · rename_i h7
      obtain ⟨x, hx, rfl⟩ := Option.map_eq_some_iff.1 h
      exact two_nums a0 a1_0 a1_1 a1_0 a2_1 n a1_2 a2_2 x _ w hne HC hq (Lib.hid fun w => rescindref01_Mul.calls k _ _ x.1 x.2 w hx) (.inr (.inr (.inl ⟨h7, rfl⟩)))
    split at h
    · rename_i h7
      obtain ⟨x, hx, rfl⟩ := Option.map_eq_some_iff.1 h
      exact two_nums a0 a1_0 a1_1 a1_0 a2_1 n a1_2 a2_2 x _ w hne HC hq (Lib.hid fun w => rescindref01_Quo.calls _ _ x.1 x.2 w hx) (.inr (.inr (.inr ⟨h7, rfl⟩)))
    · rename_i h7 h8 h9 h10
      obtain ⟨x, hx, rfl⟩ := Option.map_eq_some_iff.1 h
      exact two_rem a0 a1_0 a1_1 a1_0 a2_1 n a1_2 a2_2 x w hne HC hq hr (Lib.hid fun w => rescindref01_Rem.calls _ _ x.1 x.2 w hx) (beq_eq_false_iff_ne.2 h4) (beq_eq_false_iff_ne.2 h5) (beq_eq_false_iff_ne.2 h6) (beq_eq_false_iff_ne.2 h7) (beq_eq_false_iff_ne.2 h8) (beq_eq_false_iff_ne.2 h9) (beq_eq_false_iff_ne.2 h10)
  exact main (r1, r2, r3, r4) h
def rescindref01_Neg.f (a0 : Int) : Option (Int × Int) := (rescindref01_Sub.f 0 a0).bind fun bt197 => (some (bt197.1, bt197.2))
set_option maxHeartbeats 8000000 in
set_option maxRecDepth 100000 in
theorem rescindref01_Neg.calls (a0 : Int) (r1 : Int) (r2 : Int) (w : World) (h : rescindref01_Neg.f a0 = some (r1, r2)) :
    Calls Try.prog 57 #[.int .i64 a0] w fun e w' => e = .returned (.tuple #[.int .i64 r1, .int .i64 r2]) ∧ Drawn0 w w' := by
  have H : ((rescindref01_Sub.f 0 a0).bind fun bt197 => (some (bt197.1, bt197.2))) = some (r1, r2) := h
  clear h
  replace H := Option.bind_eq_some_iff.mp H
  obtain ⟨⟨t197, t198⟩, A20, H⟩ := H
  replace H : (some (t197, t198)) = some (r1, r2) := H
  have A2 := Aside0.mk A20
  clear A20
  simp only [Option.some.injEq, Prod.mk.injEq] at H
  obtain ⟨rfl, rfl⟩ := H
  go_enter Try.func57, Try.ntmps57
  go_wp2_with (first | ((with_reducible refine gate_callee (f := 52) rfl ?_); refine goesL_ (some 5) rfl rfl Try.func52 (by kernel_rfl) rfl #[.int .i64 0, .int .i64 a0] rfl (by (try simp only [List.map_toArray, List.map_cons, List.map_nil]); first | done | rfl | (simp only [List.length_drop, List.length_take]; rfl)) ?_; (with_reducible refine (rescindref01_Sub.calls 0 a0 t197 t198 _ A2.out).mono ?_); rintro e w' ⟨rfl, ⟨nd, rfl⟩⟩; refine ⟨_, rfl, ?_⟩))
  go_ret2
  exact ⟨by first | rfl | (simp; done) | (simp [*]; done), by repeat (first | exact Drawn0.refl _ | apply Drawn0.step)⟩
end Go.Proofs.Ytbjbnlngdkkidaa.PEv
