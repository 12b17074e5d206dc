/- The contracts of package num in plain numbers, and 'live'. -/
import Derived.Test.YtdnlcbkocnionaaRRRNumPure
import Derived.Test.YtdnlcbkocnionaaRRRNumShow
import Derived.Lib.Hide
namespace Go.Proofs.YtdnlcbkocnionaaRRR.NumW
open Go.RowKit Go.Proofs.YtdnlcbkocnionaaRRRW.PrintWords Go.Proofs.YtdnlcbkocnionaaRRRW.PrintLast Go.Proofs.YtdnlcbkocnionaaRRRW.PrintMore
open Go.Proofs.YtdnlcbkocnionaaRRR.PNum Go.Proofs.YtdnlcbkocnionaaRRR.NumP

/-- The text of a number. -/
def showS (n : Int) : ByteArray := strOfNums (showL (decide (n < 0)) (decF 19 n.natAbs []))

theorem show_calls (n : Int) (hn : R64 n) (w : World) :
    Calls Try.prog 31 #[.int .i64 n] w fun e w' => e = .returned (.string (showS n)) ∧ Below w.heap.size w w' :=
  show_any n n.natAbs (decide (n < 0)) w (size_eq n hn) (by unfold R64 at hn; omega)

theorem live_calls (w : World) : Calls Try.prog 18 #[] w fun e w' => e = .returned (.bool true) ∧ Below w.heap.size w w' := by
  have c1 : ∀ w, Calls Try.prog 19 #[.int .i64 2, .int .i64 3] w fun e w' => e = .returned (.tuple #[.int .i64 5, .int .i64 0]) ∧ Drawn0 w w' := fun w => num_Add.calls 2 3 5 0 w (add_eq 2 3 (by unfold R64; omega) (by unfold R64; omega))
  have c2 : ∀ w, Calls Try.prog 12 #[.int .i64 (-4), .int .i64 5] w fun e w' => e = .returned (.tuple #[.int .i64 (-20), .int .i64 0]) ∧ Drawn0 w w' := fun w => num_Mul.calls 1 (-4) 5 (-20) 0 w (mul_eq 0 (-4) 5 (by unfold R64; omega) (by unfold R64; omega))
  have c3 : ∀ w, Calls Try.prog 14 #[.int .i64 1, .int .i64 0] w fun e w' => e = .returned (.tuple #[.int .i64 0, .int .i64 11]) ∧ Drawn0 w w' := fun w => num_Quo.calls 1 1 0 0 11 w (quo_eq 0 1 0 (by unfold R64; omega) (by unfold R64; omega))
  have c4 : ∀ w, Calls Try.prog 31 #[.int .i64 (-70)] w fun e w' => e = .returned (.string ⟨#[45, 55, 48]⟩) ∧ Below w.heap.size w w' := fun w => show_calls (-70) (by unfold R64; omega) w
  have C1 := Lib.hid c1; clear c1
  have C2 := Lib.hid c2; clear c2
  have C3 := Lib.hid c3; clear c3
  have C4 := Lib.hid c4; clear c4
  go_enter Try.func18, Try.ntmps18
  go_wp2_with (first
    | (go_at_call 19; refine (C1.out _).mono ?_; rintro e w' ⟨rfl, ⟨n1, rfl⟩⟩)
    | (go_at_call 12; refine (C2.out _).mono ?_; rintro e w' ⟨rfl, ⟨n2, rfl⟩⟩)
    | (go_at_call 14; refine (C3.out _).mono ?_; rintro e w' ⟨rfl, ⟨n3, rfl⟩⟩)
    | (go_at_call 31; refine (C4.out _).mono ?_; rintro e w' ⟨rfl, hb⟩))
  go_ret
  exact ⟨rfl, (pw_below_drewN (Below.refl _ w) _).trans (hb.mono (Nat.le_refl _))⟩
end Go.Proofs.YtdnlcbkocnionaaRRR.NumW
