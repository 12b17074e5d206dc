/- The walk of NumAdds. -/
import Derived.Test.YtdnlcbkocnionaaRRRNumLive
namespace Go.Proofs.YtdnlcbkocnionaaRRR.NumW
open Go.RowKit Go.Proofs.YtdnlcbkocnionaaRRRW.PrintWords Go.Proofs.YtdnlcbkocnionaaRRRW.PrintLast Go.Proofs.YtdnlcbkocnionaaRRRW.PrintMore
open Go.Proofs.YtdnlcbkocnionaaRRR.PNum Go.Proofs.YtdnlcbkocnionaaRRR.NumP

theorem cl {w w' : World} (n : Nat) (h : Below (w.drewN n).heap.size (w.drewN n) w') : Below w.heap.size w w' := (pw_below_drewN (Below.refl _ w) n).trans (h.mono (Nat.le_refl _))

theorem numAdds_walk (a b : Int) (ha : R64 a) (hb : R64 b) (w : World) :
    Calls Try.prog 6 #[.int .i64 a, .int .i64 b] w fun e w' => e = .returned (.bool true) ∧ Below w.heap.size w w' := by
  obtain ⟨p1, p2, hp⟩ : ∃ p1 p2, okI (a - b) = (p1, p2) := ⟨_, _, rfl⟩
  obtain ⟨q1, q2, hq⟩ : ∃ q1 q2, okI (0 - a) = (q1, q2) := ⟨_, _, rfl⟩
  have C3 := Lib.hid fun w => num_Sub.calls a b p1 p2 w (by rw [sub_eq a b ha hb, hp])
  have C4 := Lib.hid fun w => rescindref01_Sub.calls a b p1 p2 w (by rw [refSub_eq a b ha hb, hp])
  have C5 := Lib.hid fun w => num_Neg.calls 1 a q1 q2 w (by rw [neg_eq 0 a ha, hq])
  have C6 := Lib.hid fun w => rescindref01_Neg.calls a q1 q2 w (by rw [refNeg_eq a ha, hq])
  clear hp hq
  by_cases h : R64 (a + b)
  · have C1 := Lib.hid fun w => num_Add.calls a b (a + b) 0 w (by rw [add_eq a b ha hb, okI_in h])
    have C2 := Lib.hid fun w => rescindref01_Add.calls a b (a + b) 0 w (by rw [refAdd_eq a b ha hb, okI_in h])
    have C7 := Lib.hid fun w => num_Sub.calls (a + b) b a 0 w (by rw [sub_eq (a + b) b h hb, show a + b - b = a by omega, okI_in ha])
    have H := Lib.hid h
    have HA := Lib.hid ha
    have HB := Lib.hid hb
    clear h ha hb
    go_enter Try.func6, Try.ntmps6
    go_wp2_with (first
      | (go_at_call 19; ((with_reducible refine (C1.out _).mono ?_); rintro e w' ⟨rfl, ⟨n1, rfl⟩⟩))
      | (go_at_call 22; ((with_reducible refine (C2.out _).mono ?_); rintro e w' ⟨rfl, ⟨n2, rfl⟩⟩))
      | (go_at_call 23; ((with_reducible refine (C3.out _).mono ?_); rintro e w' ⟨rfl, ⟨n3, rfl⟩⟩))
      | (go_at_call 24; ((with_reducible refine (C4.out _).mono ?_); rintro e w' ⟨rfl, ⟨n4, rfl⟩⟩))
      | (go_at_call 25; ((with_reducible refine (C5.out _).mono ?_); rintro e w' ⟨rfl, ⟨n5, rfl⟩⟩))
      | (go_at_call 26; ((with_reducible refine (C6.out _).mono ?_); rintro e w' ⟨rfl, ⟨n6, rfl⟩⟩))
      | (go_at_call 23; ((with_reducible refine (C7.out _).mono ?_); rintro e w' ⟨rfl, ⟨n7, rfl⟩⟩))
      | (go_at_call 18; ((with_reducible refine (live_calls _).mono ?_); rintro e w' ⟨rfl, hl⟩)))
    go_ret
    exact ⟨rfl, cl _ hl⟩
  · have C1 := Lib.hid fun w => num_Add.calls a b 0 10 w (by rw [add_eq a b ha hb, okI_out h])
    have C2 := Lib.hid fun w => rescindref01_Add.calls a b 0 10 w (by rw [refAdd_eq a b ha hb, okI_out h])
    clear h ha hb
    go_enter Try.func6, Try.ntmps6
    go_wp2_with (first
      | (go_at_call 19; ((with_reducible refine (C1.out _).mono ?_); rintro e w' ⟨rfl, ⟨n1, rfl⟩⟩))
      | (go_at_call 22; ((with_reducible refine (C2.out _).mono ?_); rintro e w' ⟨rfl, ⟨n2, rfl⟩⟩))
      | (go_at_call 23; ((with_reducible refine (C3.out _).mono ?_); rintro e w' ⟨rfl, ⟨n3, rfl⟩⟩))
      | (go_at_call 24; ((with_reducible refine (C4.out _).mono ?_); rintro e w' ⟨rfl, ⟨n4, rfl⟩⟩))
      | (go_at_call 25; ((with_reducible refine (C5.out _).mono ?_); rintro e w' ⟨rfl, ⟨n5, rfl⟩⟩))
      | (go_at_call 26; ((with_reducible refine (C6.out _).mono ?_); rintro e w' ⟨rfl, ⟨n6, rfl⟩⟩))
      | (go_at_call 18; ((with_reducible refine (live_calls _).mono ?_); rintro e w' ⟨rfl, hl⟩)))
    go_ret
    exact ⟨rfl, cl _ hl⟩
end Go.Proofs.YtdnlcbkocnionaaRRR.NumW
