/- The walk of NumParts. -/
import Derived.Test.YtdnlcbkocnionaaRRRNumAddsW
namespace Go.Proofs.YtdnlcbkocnionaaRRR.NumW
open Go.RowKit Go.Proofs.YtdnlcbkocnionaaRRRW.PrintWords Go.Proofs.YtdnlcbkocnionaaRRRW.PrintLast Go.Proofs.YtdnlcbkocnionaaRRRW.PrintMore
open Go.Proofs.YtdnlcbkocnionaaRRR.PNum Go.Proofs.YtdnlcbkocnionaaRRR.NumP

theorem parts_arith (a b : Int) (ha : R64 a) (hb : R64 b) (h0 : b ≠ 0) (h1 : ¬ (a = -9223372036854775808 ∧ b = -1)) :
    R64 (a.tdiv b) ∧ R64 (a.tdiv b * b) ∧ a.tdiv b * b + a.tmod b = a ∧ (a < 0 → a.tmod b ≤ 0) ∧ (0 ≤ a → 0 ≤ a.tmod b) ∧ (a.tmod b).natAbs < b.natAbs := by
  have e := Int.tdiv_mul_add_tmod a b
  have hlt := tmod_lt a b h0
  have hm := tmod_abs a b
  have h2 : (a < 0 → a.tmod b ≤ 0) ∧ (0 ≤ a → 0 ≤ a.tmod b) := by
    generalize a.natAbs % b.natAbs = q at *
    split at hm
    · rename_i c; simp at c; omega
    · rename_i c; simp at c; omega
  have hq := refQuo_eq a b ha hb
  have hd : (a.tdiv b).natAbs ≤ a.natAbs := by rw [nat_tdiv]; exact Nat.div_le_self _ _
  have hr : R64 (a.tdiv b) := by
    unfold R64 at *
    by_cases ha1 : a = -9223372036854775808
    · by_cases hb1 : b = 1
      · subst hb1; simp only [Int.tdiv_one]; omega
      · have : 2 ≤ b.natAbs := by omega
        have h3 : a.natAbs / b.natAbs ≤ a.natAbs / 2 := Nat.div_le_div_left this (by omega)
        rw [← nat_tdiv] at h3
        omega
    · omega
  refine ⟨hr, ?_, e, h2.1, h2.2, hlt⟩
  have ht : (a.tmod b).natAbs ≤ a.natAbs := by
    have h5 : a.natAbs % b.natAbs ≤ a.natAbs := Nat.mod_le _ _
    generalize a.natAbs % b.natAbs = q at *
    split at hm <;> omega
  generalize a.tdiv b * b = p at *
  unfold R64 at *
  omega

set_option maxHeartbeats 1000000 in
theorem numParts_walk (a b : Int) (ha : R64 a) (hb : R64 b) (w : World) :
    Calls Try.prog 4 #[.int .i64 a, .int .i64 b] w fun e w' => e = .returned (.bool true) ∧ Below w.heap.size w w' := by
  by_cases h0 : b = 0
  · subst h0
    have C1 := Lib.hid fun w => num_Quo.calls 1 a 0 0 11 w (quo_eq 0 a 0 ha hb)
    have C2 := Lib.hid fun w => num_Rem.calls 1 a 0 0 11 w (rem_eq 0 a 0 ha hb)
    clear ha hb
    go_enter Try.func4, Try.ntmps4
    go_wp2_with (first
      | (go_at_call 14; ((with_reducible refine (C1.out _).mono ?_); rintro e w' ⟨rfl, ⟨n1, rfl⟩⟩))
      | (go_at_call 16; ((with_reducible refine (C2.out _).mono ?_); rintro e w' ⟨rfl, ⟨n2, rfl⟩⟩))
      | (go_at_call 18; ((with_reducible refine (live_calls _).mono ?_); rintro e w' ⟨rfl, hl⟩)))
    all_goals (go_ret; exact ⟨rfl, cl _ hl⟩)
  by_cases h1 : a = -9223372036854775808 ∧ b = -1
  · obtain ⟨rfl, rfl⟩ := h1
    have C1 := Lib.hid fun w => num_Quo.calls 1 (-9223372036854775808) (-1) 0 10 w (quo_eq 0 _ _ ha hb)
    have C2 := Lib.hid fun w => num_Rem.calls 1 (-9223372036854775808) (-1) 0 0 w (rem_eq 0 _ _ ha hb)
    clear ha hb
    generalize -9223372036854775808 = a at *
    go_enter Try.func4, Try.ntmps4
    go_wp2_with (first
      | (go_at_call 14; ((with_reducible refine (C1.out _).mono ?_); rintro e w' ⟨rfl, ⟨n1, rfl⟩⟩))
      | (go_at_call 16; ((with_reducible refine (C2.out _).mono ?_); rintro e w' ⟨rfl, ⟨n2, rfl⟩⟩))
      | (go_at_call 18; ((with_reducible refine (live_calls _).mono ?_); rintro e w' ⟨rfl, hl⟩)))
    all_goals (go_ret; exact ⟨rfl, cl _ hl⟩)
  obtain ⟨k1, k2, k3, k4, k5, k6⟩ := parts_arith a b ha hb h0 h1
  have C1 := Lib.hid fun w => num_Quo.calls 1 a b (a.tdiv b) 0 w (by rw [quo_eq 0 a b ha hb]; unfold quoS; rw [if_neg h0, okI_in k1])
  have C2 := Lib.hid fun w => num_Rem.calls 1 a b (a.tmod b) 0 w (by rw [rem_eq 0 a b ha hb]; unfold remS; rw [if_neg h0])
  have hR : R64 (a.tmod b) := by unfold R64 at *; omega
  have C3 := Lib.hid fun w => num_Mul.calls 1 (a.tdiv b) b (a.tdiv b * b) 0 w (by rw [mul_eq 0 _ b k1 hb, okI_in k2])
  have C4 := Lib.hid fun w => num_Add.calls (a.tdiv b * b) (a.tmod b) a 0 w (by rw [add_eq _ _ k2 hR, k3, okI_in ha])
  have K3 := Lib.hid k3; clear k3
  unfold R64 at ha hb
  clear k1 k2 hR
  generalize a.tdiv b * b = p at *
  generalize a.tdiv b = q at *
  generalize a.tmod b = r at *
  have hneg : b < 0 → b = -9223372036854775808 ∨ r < -b := by omega
  by_cases hbp : 0 < b
  · have g1 : r < b := by omega
    have g2 : -b < r := by omega
    clear k6 h0 h1 hneg
    by_cases c : a < 0
    · have g3 : r ≤ 0 := k4 c
      clear k4 k5
      go_enter Try.func4, Try.ntmps4
      go_wp2_with (first
        | (go_at_call 14; ((with_reducible refine (C1.out _).mono ?_); rintro e w' ⟨rfl, ⟨n1, rfl⟩⟩))
        | (go_at_call 16; ((with_reducible refine (C2.out _).mono ?_); rintro e w' ⟨rfl, ⟨n2, rfl⟩⟩))
        | (go_at_call 12; ((with_reducible refine (C3.out _).mono ?_); rintro e w' ⟨rfl, ⟨n3, rfl⟩⟩))
        | (go_at_call 19; ((with_reducible refine (C4.out _).mono ?_); rintro e w' ⟨rfl, ⟨n4, rfl⟩⟩))
        | (go_at_call 18; ((with_reducible refine (live_calls _).mono ?_); rintro e w' ⟨rfl, hl⟩)))
      all_goals (go_ret; exact ⟨rfl, cl _ hl⟩)
    · have g3 : 0 ≤ r := k5 (by omega)
      clear k4 k5
      go_enter Try.func4, Try.ntmps4
      go_wp2_with (first
        | (go_at_call 14; ((with_reducible refine (C1.out _).mono ?_); rintro e w' ⟨rfl, ⟨n1, rfl⟩⟩))
        | (go_at_call 16; ((with_reducible refine (C2.out _).mono ?_); rintro e w' ⟨rfl, ⟨n2, rfl⟩⟩))
        | (go_at_call 12; ((with_reducible refine (C3.out _).mono ?_); rintro e w' ⟨rfl, ⟨n3, rfl⟩⟩))
        | (go_at_call 19; ((with_reducible refine (C4.out _).mono ?_); rintro e w' ⟨rfl, ⟨n4, rfl⟩⟩))
        | (go_at_call 18; ((with_reducible refine (live_calls _).mono ?_); rintro e w' ⟨rfl, hl⟩)))
      all_goals (go_ret; exact ⟨rfl, cl _ hl⟩)
  · have g1 : b < r := by omega
    have g2 := hneg (by omega)
    clear k6 h0 h1 hneg
    have main : ∀ (g : b ≤ -9223372036854775808 ∨ (-9223372036854775808 < b ∧ r < -b)) (g3 : (a < 0 ∧ r ≤ 0) ∨ (¬ a < 0 ∧ 0 ≤ r)), Calls Try.prog 4 #[.int .i64 a, .int .i64 b] w fun e w' => e = .returned (.bool true) ∧ Below w.heap.size w w' := by
      clear g2 k4 k5
      intro g g3
      rcases g with g | ⟨g, g4⟩ <;> rcases g3 with ⟨c, g3⟩ | ⟨c, g3⟩
      all_goals
        go_enter Try.func4, Try.ntmps4
        go_wp2_with (first
          | (go_at_call 14; ((with_reducible refine (C1.out _).mono ?_); rintro e w' ⟨rfl, ⟨n1, rfl⟩⟩))
          | (go_at_call 16; ((with_reducible refine (C2.out _).mono ?_); rintro e w' ⟨rfl, ⟨n2, rfl⟩⟩))
          | (go_at_call 12; ((with_reducible refine (C3.out _).mono ?_); rintro e w' ⟨rfl, ⟨n3, rfl⟩⟩))
          | (go_at_call 19; ((with_reducible refine (C4.out _).mono ?_); rintro e w' ⟨rfl, ⟨n4, rfl⟩⟩))
          | (go_at_call 18; ((with_reducible refine (live_calls _).mono ?_); rintro e w' ⟨rfl, hl⟩)))
        all_goals (go_ret; exact ⟨rfl, cl _ hl⟩)
    refine main ?_ ?_
    · omega
    · by_cases c : a < 0
      · exact .inl ⟨c, k4 c⟩
      · exact .inr ⟨c, k5 (by omega)⟩
end Go.Proofs.YtdnlcbkocnionaaRRR.NumW
