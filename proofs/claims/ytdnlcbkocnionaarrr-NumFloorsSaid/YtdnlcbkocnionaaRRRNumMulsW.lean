/- The walks of NumMuls and NumFloors. -/
import Derived.Test.YtdnlcbkocnionaaRRRNumAddsW
namespace Go.Proofs.YtdnlcbkocnionaaRRR.NumW
open Go.RowKit Go.Proofs.YtdnlcbkocnionaaRRRW.PrintWords Go.Proofs.YtdnlcbkocnionaaRRRW.PrintLast Go.Proofs.YtdnlcbkocnionaaRRRW.PrintMore
open Go.Proofs.YtdnlcbkocnionaaRRR.PNum Go.Proofs.YtdnlcbkocnionaaRRR.NumP

theorem numMuls_walk (a b : Int) (ha : R64 a) (hb : R64 b) (w : World) :
    Calls Try.prog 3 #[.int .i64 a, .int .i64 b] w fun e w' => e = .returned (.bool true) ∧ Below w.heap.size w w' := by
  obtain ⟨p1, p2, hp⟩ : ∃ p1 p2, okI (a * b) = (p1, p2) := ⟨_, _, rfl⟩
  obtain ⟨q1, q2, hq⟩ : ∃ q1 q2, quoS a b = (q1, q2) := ⟨_, _, rfl⟩
  obtain ⟨r1, r2, hr⟩ : ∃ r1 r2, remS a b = (r1, r2) := ⟨_, _, rfl⟩
  have C1 := Lib.hid fun w => num_Mul.calls 1 a b p1 p2 w (by rw [mul_eq 0 a b ha hb, hp])
  have C2 := Lib.hid fun w => rescindref01_Mul.calls 2 a b p1 p2 w (by rw [refMul_eq 0 a b ha hb, hp])
  have C3 := Lib.hid fun w => num_Quo.calls 1 a b q1 q2 w (by rw [quo_eq 0 a b ha hb, hq])
  have C4 := Lib.hid fun w => rescindref01_Quo.calls a b q1 q2 w (by rw [refQuo_eq a b ha hb, hq])
  have C5 := Lib.hid fun w => num_Rem.calls 1 a b r1 r2 w (by rw [rem_eq 0 a b ha hb, hr])
  have C6 := Lib.hid fun w => rescindref01_Rem.calls a b r1 r2 w (by rw [refRem_eq a b, hr])
  clear hp hq hr ha hb
  go_enter Try.func3, Try.ntmps3
  go_wp2_with (first
    | (go_at_call 12; ((with_reducible refine (C1.out _).mono ?_); rintro e w' ⟨rfl, ⟨n1, rfl⟩⟩))
    | (go_at_call 13; ((with_reducible refine (C2.out _).mono ?_); rintro e w' ⟨rfl, ⟨n2, rfl⟩⟩))
    | (go_at_call 14; ((with_reducible refine (C3.out _).mono ?_); rintro e w' ⟨rfl, ⟨n3, rfl⟩⟩))
    | (go_at_call 15; ((with_reducible refine (C4.out _).mono ?_); rintro e w' ⟨rfl, ⟨n4, rfl⟩⟩))
    | (go_at_call 16; ((with_reducible refine (C5.out _).mono ?_); rintro e w' ⟨rfl, ⟨n5, rfl⟩⟩))
    | (go_at_call 17; ((with_reducible refine (C6.out _).mono ?_); rintro e w' ⟨rfl, ⟨n6, rfl⟩⟩))
    | (go_at_call 18; ((with_reducible refine (live_calls _).mono ?_); rintro e w' ⟨rfl, hl⟩)))
  go_ret
  exact ⟨rfl, cl _ hl⟩

theorem numFloors_walk (a b : Int) (ha : R64 a) (hb : R64 b) (w : World) :
    Calls Try.prog 5 #[.int .i64 a, .int .i64 b] w fun e w' => e = .returned (.bool true) ∧ Below w.heap.size w w' := by
  by_cases h : b < 1
  · have C1 := Lib.hid fun w => num_Floor.calls a b 0 0 2 w (by rw [floor_eq a b ha hb]; unfold floorS; rw [if_pos h])
    have C2 := Lib.hid fun w => rescindref01_Floor.calls a b 0 0 2 w (by rw [refFloor_eq a b ha hb]; unfold floorS; rw [if_pos h])
    clear ha hb
    go_enter Try.func5, Try.ntmps5
    go_wp2_with (first
      | (go_at_call 20; ((with_reducible refine (C1.out _).mono ?_); rintro e w' ⟨rfl, ⟨n1, rfl⟩⟩))
      | (go_at_call 21; ((with_reducible refine (C2.out _).mono ?_); rintro e w' ⟨rfl, ⟨n2, rfl⟩⟩))
      | (go_at_call 18; ((with_reducible refine (live_calls _).mono ?_); rintro e w' ⟨rfl, hl⟩)))
    go_ret
    exact ⟨rfl, cl _ hl⟩
  · have C1 := Lib.hid fun w => num_Floor.calls a b (a / b) (a % b) 0 w (by rw [floor_eq a b ha hb]; unfold floorS; rw [if_neg h])
    have C2 := Lib.hid fun w => rescindref01_Floor.calls a b (a / b) (a % b) 0 w (by rw [refFloor_eq a b ha hb]; unfold floorS; rw [if_neg h])
    have h3 : 0 ≤ a % b := Int.emod_nonneg a (by omega)
    have h4 : a % b < b := Int.emod_lt_of_pos a (by omega)
    have h5 : 0 ≤ a → 0 ≤ a / b := fun c => Int.ediv_nonneg c (by omega)
    generalize a / b = q at *
    generalize a % b = r at *
    clear ha hb h
    by_cases c : a < 0
    · clear h5
      go_enter Try.func5, Try.ntmps5
      go_wp2_with (first
        | (go_at_call 20; ((with_reducible refine (C1.out _).mono ?_); rintro e w' ⟨rfl, ⟨n1, rfl⟩⟩))
        | (go_at_call 21; ((with_reducible refine (C2.out _).mono ?_); rintro e w' ⟨rfl, ⟨n2, rfl⟩⟩))
        | (go_at_call 18; ((with_reducible refine (live_calls _).mono ?_); rintro e w' ⟨rfl, hl⟩)))
      go_ret
      exact ⟨rfl, cl _ hl⟩
    · have h6 : 0 ≤ q := h5 (by omega)
      clear h5
      go_enter Try.func5, Try.ntmps5
      go_wp2_with (first
        | (go_at_call 20; ((with_reducible refine (C1.out _).mono ?_); rintro e w' ⟨rfl, ⟨n1, rfl⟩⟩))
        | (go_at_call 21; ((with_reducible refine (C2.out _).mono ?_); rintro e w' ⟨rfl, ⟨n2, rfl⟩⟩))
        | (go_at_call 18; ((with_reducible refine (live_calls _).mono ?_); rintro e w' ⟨rfl, hl⟩)))
      go_ret
      exact ⟨rfl, cl _ hl⟩
end Go.Proofs.YtdnlcbkocnionaaRRR.NumW
