-- PRINTED by print.py (a twelfth state) out of the translation. Not trusted: Lean checks it.
import Derived.Test.YtdnlcbkocnionaaRRRPNumSx0
namespace Go.Proofs.YtdnlcbkocnionaaRRR.PNumS
open Go.RowKit Go.Proofs.YtdnlcbkocnionaaRRRW.PrintWords Go.Proofs.YtdnlcbkocnionaaRRRW.PrintLast Go.Proofs.YtdnlcbkocnionaaRRRW.PrintMore
attribute [local go_sem] max2_int min2_int max_two min_two max_three min_three max_four min_four   -- for this text's walks alone
set_option linter.unusedVariables false
set_option linter.unusedSimpArgs false

/-! ### num_size: function 38 -/
def num_size.f (a0 : Int) : Option (Int × Bool) := if a0 < 0 then (some (IntKind.u64.wrap (-(IntKind.u64.wrap (a0))), true)) else (some (IntKind.u64.wrap (a0), false))
set_option maxHeartbeats 8000000 in
set_option maxRecDepth 100000 in
theorem num_size.calls (a0 : Int) (r1 : Int) (r2 : Bool) (w : World) (h : num_size.f a0 = some (r1, r2)) :
    Calls Try.prog 38 #[.int .i64 a0] w fun e w' => e = .returned (.tuple #[.int .u64 r1, .bool r2]) ∧ Drawn0 w w' := by
  have H : (if a0 < 0 then (some (IntKind.u64.wrap (-(IntKind.u64.wrap (a0))), true)) else (some (IntKind.u64.wrap (a0), false))) = some (r1, r2) := h
  clear h
  by_cases c2 : a0 < 0
  · rw [if_pos c2] at H
    have c2b0 : decide (a0 < 0) = true := decide_eq_true c2
    clear c2
    simp only [Option.some.injEq, Prod.mk.injEq] at H
    obtain ⟨rfl, rfl⟩ := H
    go_enter Try.func38, Try.ntmps38
    go_wp2
    go_ret2
    exact ⟨by first | rfl | (simp; done) | (simp [*]; done), by repeat (first | exact Drawn0.refl _ | apply Drawn0.step)⟩
  · rw [if_neg c2] at H
    have c2b0 : decide (a0 < 0) = false := decide_eq_false c2
    clear c2
    simp only [Option.some.injEq, Prod.mk.injEq] at H
    obtain ⟨rfl, rfl⟩ := H
    go_enter Try.func38, Try.ntmps38
    go_wp2
    go_ret2
    exact ⟨by first | rfl | (simp; done) | (simp [*]; done), by repeat (first | exact Drawn0.refl _ | apply Drawn0.step)⟩

/-! ### bits_Mul64: function 39 -/
def bits_Mul64.f (a0 : Int) (a1 : Int) : Option (Int × Int) := some (IntKind.u64.wrap ((IntKind.u64.wrap ((IntKind.u64.wrap ((a0 / 4294967296) * (a1 / 4294967296))) + ((IntKind.u64.wrap ((IntKind.u64.wrap ((a0 / 4294967296) * (Go.bits .and .u64 a1 4294967295))) + ((IntKind.u64.wrap ((Go.bits .and .u64 a0 4294967295) * (Go.bits .and .u64 a1 4294967295))) / 4294967296))) / 4294967296))) + ((IntKind.u64.wrap ((Go.bits .and .u64 (IntKind.u64.wrap ((IntKind.u64.wrap ((a0 / 4294967296) * (Go.bits .and .u64 a1 4294967295))) + ((IntKind.u64.wrap ((Go.bits .and .u64 a0 4294967295) * (Go.bits .and .u64 a1 4294967295))) / 4294967296))) 4294967295) + (IntKind.u64.wrap ((Go.bits .and .u64 a0 4294967295) * (a1 / 4294967296))))) / 4294967296)), IntKind.u64.wrap (a0 * a1))
set_option maxHeartbeats 8000000 in
set_option maxRecDepth 100000 in
theorem bits_Mul64.calls (a0 : Int) (a1 : Int) (r1 : Int) (r2 : Int) (w : World) (h : bits_Mul64.f a0 a1 = some (r1, r2)) :
    Calls Try.prog 39 #[.int .u64 a0, .int .u64 a1] w fun e w' => e = .returned (.tuple #[.int .u64 r1, .int .u64 r2]) ∧ Drawn0 w w' := by
  have H : (some (IntKind.u64.wrap ((IntKind.u64.wrap ((IntKind.u64.wrap ((a0 / 4294967296) * (a1 / 4294967296))) + ((IntKind.u64.wrap ((IntKind.u64.wrap ((a0 / 4294967296) * (Go.bits .and .u64 a1 4294967295))) + ((IntKind.u64.wrap ((Go.bits .and .u64 a0 4294967295) * (Go.bits .and .u64 a1 4294967295))) / 4294967296))) / 4294967296))) + ((IntKind.u64.wrap ((Go.bits .and .u64 (IntKind.u64.wrap ((IntKind.u64.wrap ((a0 / 4294967296) * (Go.bits .and .u64 a1 4294967295))) + ((IntKind.u64.wrap ((Go.bits .and .u64 a0 4294967295) * (Go.bits .and .u64 a1 4294967295))) / 4294967296))) 4294967295) + (IntKind.u64.wrap ((Go.bits .and .u64 a0 4294967295) * (a1 / 4294967296))))) / 4294967296)), IntKind.u64.wrap (a0 * a1))) = some (r1, r2) := h
  clear h
  simp only [Option.some.injEq, Prod.mk.injEq] at H
  obtain ⟨rfl, rfl⟩ := H
  go_enter Try.func39, Try.ntmps39
  go_wp2
  go_ret2
  exact ⟨by first | rfl | (simp; done) | (simp [*]; done), by repeat (first | exact Drawn0.refl _ | apply Drawn0.step)⟩

/-! ### num_signed: function 40 -/
def num_signed.j0 : Nat → Int → Bool → Bool → Option (Int × Int)
  | 0, _, _, _ => none
  | k + 1, x0, x1, x6 => if x6 = true then (some (wrap64 (IntKind.u64.wrap (-x0)), 0)) else (if x1 = true then (some (0, 10)) else (if x0 ≤ 9223372036854775807 then (some (wrap64 (x0), 0)) else (some (0, 10))))
def num_signed.f (k : Nat) (a0 : Int) (a1 : Bool) : Option (Int × Int) := if a1 = true then (num_signed.j0 k a0 a1 (decide (a0 ≤ 9223372036854775808))) else (num_signed.j0 k a0 a1 false)
theorem num_signed.mono_l : ∀ k, (∀ y0 y1 y2, LeO (num_signed.j0 k y0 y1 y2) (num_signed.j0 (k + 1) y0 y1 y2))
  | 0 => fun _ _ _ r h => by simp [num_signed.j0] at h
  | k + 1 => by
    have ih0 := num_signed.mono_l k
    · intro y0 y1 y2
      unfold num_signed.j0
      repeat' first
      | (with_reducible exact ih0 _ _ _)
      | (with_reducible exact LeO.refl _)
      | (with_reducible exact LeO.none _)
      | (with_reducible refine LeO.ite ?_ ?_)
      | (with_reducible refine LeO.bind ?_ (fun _ => ?_))
      | exact ih0 _ _ _
      | exact LeO.none _
      | refine LeO.ite ?_ ?_
      | refine LeO.bind ?_ (fun _ => ?_)
theorem num_signed.mono : ∀ a0 a1 k, LeO (num_signed.f k a0 a1) (num_signed.f (k + 1) a0 a1) := by
  intro a0 a1 k
  have ih0 := num_signed.mono_l k
  unfold num_signed.f
  repeat' first
      | (with_reducible exact ih0 _ _ _)
      | (with_reducible exact LeO.refl _)
      | (with_reducible exact LeO.none _)
      | (with_reducible refine LeO.ite ?_ ?_)
      | (with_reducible refine LeO.bind ?_ (fun _ => ?_))
      | exact ih0 _ _ _
      | exact LeO.none _
      | refine LeO.ite ?_ ?_
      | refine LeO.bind ?_ (fun _ => ?_)
set_option maxHeartbeats 8000000 in
set_option maxRecDepth 100000 in
theorem num_signed.calls (k : Nat) (a0 : Int) (a1 : Bool) (r1 : Int) (r2 : Int) (w : World) (h : num_signed.f k a0 a1 = some (r1, r2)) :
    Calls Try.prog 40 #[.int .u64 a0, .bool a1] w fun e w' => e = .returned (.tuple #[.int .i64 r1, .int .i64 r2]) ∧ Drawn0 w w' := by
  have H : (if a1 = true then (num_signed.j0 k a0 a1 (decide (a0 ≤ 9223372036854775808))) else (num_signed.j0 k a0 a1 false)) = some (r1, r2) := h
  clear h
  have HC3 := Aside0.mk H
  clear H
  go_enter Try.func40, Try.ntmps40
  go_upto_region 1 with (fail)
  go_cut [6] (fun v6 wc => ∃ (kq : Nat) (x6_2 : Bool), v6 = .bool x6_2 ∧ Aside0 (num_signed.j0 kq a0 a1 x6_2 = some (r1, r2)) ∧ Aside0 (kq ≤ k) ∧ Drawn0 w wc)
  case first =>
    have H := HC3.out
    clear HC3
    by_cases c4 : a1 = true
    · subst c4
      have H1 : (num_signed.j0 k a0 true (decide (a0 ≤ 9223372036854775808))) = some (r1, r2) := by rw [if_pos rfl] at H; exact H
      clear H
      have H := H1
      clear H1
      have H' := Aside0.mk H
      clear H
      go_wp2
      go_meet
      case rel => exact ⟨_, (decide (a0 ≤ 9223372036854775808)), (by first | rfl | (simp; done) | (simp [*]; done)), H', ⟨by first | omega | exact Nat.le_refl _⟩, by repeat (first | exact Drawn0.refl _ | apply Drawn0.step)⟩
    · replace c4 := Bool.eq_false_iff.mpr c4
      subst c4
      have H1 : (num_signed.j0 k a0 false false) = some (r1, r2) := by rw [if_neg (show ¬ (false = true) by decide)] at H; exact H
      clear H
      have H := H1
      clear H1
      have H' := Aside0.mk H
      clear H
      go_wp2
      go_meet
      case rel => exact ⟨_, (false), (by first | rfl | (simp; done) | (simp [*]; done)), H', ⟨by first | omega | exact Nat.le_refl _⟩, by repeat (first | exact Drawn0.refl _ | apply Drawn0.step)⟩
  case rest =>
    clear HC3
    try clear p2
    try clear c4
    obtain ⟨kq, x6_2, rfl, HA, HJ2, ⟨mc2, rfl⟩⟩ := hcut
    cases kq with
    | zero => exact absurd HA.out (by simp [num_signed.j0])
    | succ kj2 =>
      have H := HA.out
      clear HA
      simp only [num_signed.j0] at H
      by_cases c5 : x6_2 = true
      · subst c5
        have H1 : (some (wrap64 (IntKind.u64.wrap (-a0)), 0)) = some (r1, r2) := by rw [if_pos rfl] at H; exact H
        clear H
        have H := H1
        clear H1
        simp only [Option.some.injEq, Prod.mk.injEq] at H
        obtain ⟨rfl, rfl⟩ := H
        go_wp2
        go_ret2
        exact ⟨by first | rfl | (simp; done) | (simp [*]; done), by repeat (first | exact Drawn0.refl _ | apply Drawn0.step)⟩
      · replace c5 := Bool.eq_false_iff.mpr c5
        subst c5
        have H1 : (if a1 = true then (some (0, 10)) else (if a0 ≤ 9223372036854775807 then (some (wrap64 (a0), 0)) else (some (0, 10)))) = some (r1, r2) := by rw [if_neg (show ¬ (false = true) by decide)] at H; exact H
        clear H
        have H := H1
        clear H1
        by_cases c6 : a1 = true
        · subst c6
          have H1 : (some (0, 10)) = some (r1, r2) := by rw [if_pos rfl] at H; exact H
          clear H
          have H := H1
          clear H1
          simp only [Option.some.injEq, Prod.mk.injEq] at H
          obtain ⟨rfl, rfl⟩ := H
          go_wp2
          go_ret2
          exact ⟨by first | rfl | (simp; done) | (simp [*]; done), by repeat (first | exact Drawn0.refl _ | apply Drawn0.step)⟩
        · replace c6 := Bool.eq_false_iff.mpr c6
          subst c6
          have H1 : (if a0 ≤ 9223372036854775807 then (some (wrap64 (a0), 0)) else (some (0, 10))) = some (r1, r2) := by rw [if_neg (show ¬ (false = true) by decide)] at H; exact H
          clear H
          have H := H1
          clear H1
          by_cases c7 : a0 ≤ 9223372036854775807
          · rw [if_pos c7] at H
            have c7b0 : decide (a0 ≤ 9223372036854775807) = true := decide_eq_true c7
            clear c7
            simp only [Option.some.injEq, Prod.mk.injEq] at H
            obtain ⟨rfl, rfl⟩ := H
            go_wp2
            go_ret2
            exact ⟨by first | rfl | (simp; done) | (simp [*]; done), by repeat (first | exact Drawn0.refl _ | apply Drawn0.step)⟩
          · rw [if_neg c7] at H
            have c7b0 : decide (a0 ≤ 9223372036854775807) = false := decide_eq_false c7
            clear c7
            simp only [Option.some.injEq, Prod.mk.injEq] at H
            obtain ⟨rfl, rfl⟩ := H
            go_wp2
            go_ret2
            exact ⟨by first | rfl | (simp; done) | (simp [*]; done), by repeat (first | exact Drawn0.refl _ | apply Drawn0.step)⟩

/-! ### num_Mul: function 12 -/
def num_Mul.f (k : Nat) (a0 : Int) (a1 : Int) : Option (Int × Int) := (num_size.f a0).bind fun bt101 => ((num_size.f a1).bind fun bt103 => ((bits_Mul64.f bt101.1 bt103.1).bind fun bt105 => (if bt105.1 = 0 then ((num_signed.f k bt105.2 (bt101.2 != bt103.2)).bind fun bt107 => (some (bt107.1, bt107.2))) else (some (0, 10)))))
theorem num_Mul.mono : ∀ a0 a1 k, LeO (num_Mul.f k a0 a1) (num_Mul.f (k + 1) a0 a1) := by
  intro a0 a1 k
  unfold num_Mul.f
  repeat' first
      | (with_reducible exact num_signed.mono _ _ _)
      | (with_reducible exact LeO.refl _)
      | (with_reducible exact LeO.none _)
      | (with_reducible refine LeO.ite ?_ ?_)
      | (with_reducible refine LeO.bind ?_ (fun _ => ?_))
      | exact num_signed.mono _ _ _
      | exact LeO.none _
      | refine LeO.ite ?_ ?_
      | refine LeO.bind ?_ (fun _ => ?_)
set_option maxHeartbeats 8000000 in
set_option maxRecDepth 100000 in
theorem num_Mul.calls (k : Nat) (a0 : Int) (a1 : Int) (r1 : Int) (r2 : Int) (w : World) (h : num_Mul.f k a0 a1 = some (r1, r2)) :
    Calls Try.prog 12 #[.int .i64 a0, .int .i64 a1] w fun e w' => e = .returned (.tuple #[.int .i64 r1, .int .i64 r2]) ∧ Drawn0 w w' := by
  have H : ((num_size.f a0).bind fun bt101 => ((num_size.f a1).bind fun bt103 => ((bits_Mul64.f bt101.1 bt103.1).bind fun bt105 => (if bt105.1 = 0 then ((num_signed.f k bt105.2 (bt101.2 != bt103.2)).bind fun bt107 => (some (bt107.1, bt107.2))) else (some (0, 10)))))) = some (r1, r2) := h
  clear h
  replace H := Option.bind_eq_some_iff.mp H
  obtain ⟨⟨t101, t102⟩, A30, H⟩ := H
  replace H : ((num_size.f a1).bind fun bt103 => ((bits_Mul64.f t101 bt103.1).bind fun bt105 => (if bt105.1 = 0 then ((num_signed.f k bt105.2 (t102 != bt103.2)).bind fun bt107 => (some (bt107.1, bt107.2))) else (some (0, 10))))) = some (r1, r2) := H
  have A3 := Aside0.mk A30
  clear A30
  replace H := Option.bind_eq_some_iff.mp H
  obtain ⟨⟨t103, t104⟩, A40, H⟩ := H
  replace H : ((bits_Mul64.f t101 t103).bind fun bt105 => (if bt105.1 = 0 then ((num_signed.f k bt105.2 (t102 != t104)).bind fun bt107 => (some (bt107.1, bt107.2))) else (some (0, 10)))) = some (r1, r2) := H
  have A4 := Aside0.mk A40
  clear A40
  replace H := Option.bind_eq_some_iff.mp H
  obtain ⟨⟨t105, t106⟩, A50, H⟩ := H
  replace H : (if t105 = 0 then ((num_signed.f k t106 (t102 != t104)).bind fun bt107 => (some (bt107.1, bt107.2))) else (some (0, 10))) = some (r1, r2) := H
  have A5 := Aside0.mk A50
  clear A50
  by_cases c6 : t105 = 0
  · rw [if_pos c6] at H
    have c6b0 : (t105 == 0) = true := beq_iff_eq.mpr c6
    have c6b1 : (t105 != 0) = false := bne_eq_false_iff_eq.mpr c6
    clear c6
    replace H := Option.bind_eq_some_iff.mp H
    obtain ⟨⟨t107, t108⟩, A70, H⟩ := H
    replace H : (some (t107, t108)) = some (r1, r2) := H
    have A7 := Aside0.mk A70
    clear A70
    simp only [Option.some.injEq, Prod.mk.injEq] at H
    obtain ⟨rfl, rfl⟩ := H
    go_enter Try.func12, Try.ntmps12
    go_wp2_with (first | ((with_reducible refine gate_callee (f := 38) rfl ?_); refine goesL_ (some 14) rfl rfl Try.func38 (by kernel_rfl) rfl #[.int .i64 a0] rfl (by (try simp only [List.map_toArray, List.map_cons, List.map_nil]); first | done | rfl | (simp only [List.length_drop, List.length_take]; rfl)) ?_; (with_reducible refine (num_size.calls a0 t101 t102 _ A3.out).mono ?_); rintro e w' ⟨rfl, ⟨nd, rfl⟩⟩; refine ⟨_, rfl, ?_⟩) | ((with_reducible refine gate_callee (f := 38) rfl ?_); refine goesL_ (some 19) rfl rfl Try.func38 (by kernel_rfl) rfl #[.int .i64 a1] rfl (by (try simp only [List.map_toArray, List.map_cons, List.map_nil]); first | done | rfl | (simp only [List.length_drop, List.length_take]; rfl)) ?_; (with_reducible refine (num_size.calls a1 t103 t104 _ A4.out).mono ?_); rintro e w' ⟨rfl, ⟨nd, rfl⟩⟩; refine ⟨_, rfl, ?_⟩) | ((with_reducible refine gate_callee (f := 39) rfl ?_); refine goesL_ (some 25) rfl rfl Try.func39 (by kernel_rfl) rfl #[.int .u64 t101, .int .u64 t103] rfl (by (try simp only [List.map_toArray, List.map_cons, List.map_nil]); first | done | rfl | (simp only [List.length_drop, List.length_take]; rfl)) ?_; (with_reducible refine (bits_Mul64.calls t101 t103 t105 t106 _ A5.out).mono ?_); rintro e w' ⟨rfl, ⟨nd, rfl⟩⟩; refine ⟨_, rfl, ?_⟩) | ((with_reducible refine gate_callee (f := 40) rfl ?_); refine goesL_ (some 34) rfl rfl Try.func40 (by kernel_rfl) rfl #[.int .u64 t106, .bool (t102 != t104)] rfl (by (try simp only [List.map_toArray, List.map_cons, List.map_nil]); first | done | rfl | (simp only [List.length_drop, List.length_take]; rfl)) ?_; (with_reducible refine (num_signed.calls k t106 (t102 != t104) t107 t108 _ A7.out).mono ?_); rintro e w' ⟨rfl, ⟨nd, rfl⟩⟩; refine ⟨_, rfl, ?_⟩))
    go_ret2
    exact ⟨by first | rfl | (simp; done) | (simp [*]; done), by repeat (first | exact Drawn0.refl _ | apply Drawn0.step)⟩
  · rw [if_neg c6] at H
    have c6b0 : (t105 == 0) = false := beq_eq_false_iff_ne.mpr c6
    have c6b1 : (t105 != 0) = true := bne_iff_ne.mpr c6
    simp only [Option.some.injEq, Prod.mk.injEq] at H
    obtain ⟨rfl, rfl⟩ := H
    go_enter Try.func12, Try.ntmps12
    go_wp2_with (first | ((with_reducible refine gate_callee (f := 38) rfl ?_); refine goesL_ (some 14) rfl rfl Try.func38 (by kernel_rfl) rfl #[.int .i64 a0] rfl (by (try simp only [List.map_toArray, List.map_cons, List.map_nil]); first | done | rfl | (simp only [List.length_drop, List.length_take]; rfl)) ?_; (with_reducible refine (num_size.calls a0 t101 t102 _ A3.out).mono ?_); rintro e w' ⟨rfl, ⟨nd, rfl⟩⟩; refine ⟨_, rfl, ?_⟩) | ((with_reducible refine gate_callee (f := 38) rfl ?_); refine goesL_ (some 19) rfl rfl Try.func38 (by kernel_rfl) rfl #[.int .i64 a1] rfl (by (try simp only [List.map_toArray, List.map_cons, List.map_nil]); first | done | rfl | (simp only [List.length_drop, List.length_take]; rfl)) ?_; (with_reducible refine (num_size.calls a1 t103 t104 _ A4.out).mono ?_); rintro e w' ⟨rfl, ⟨nd, rfl⟩⟩; refine ⟨_, rfl, ?_⟩) | ((with_reducible refine gate_callee (f := 39) rfl ?_); refine goesL_ (some 25) rfl rfl Try.func39 (by kernel_rfl) rfl #[.int .u64 t101, .int .u64 t103] rfl (by (try simp only [List.map_toArray, List.map_cons, List.map_nil]); first | done | rfl | (simp only [List.length_drop, List.length_take]; rfl)) ?_; (with_reducible refine (bits_Mul64.calls t101 t103 t105 t106 _ A5.out).mono ?_); rintro e w' ⟨rfl, ⟨nd, rfl⟩⟩; refine ⟨_, rfl, ?_⟩))
    go_ret2
    exact ⟨by first | rfl | (simp; done) | (simp [*]; done), by repeat (first | exact Drawn0.refl _ | apply Drawn0.step)⟩

/-! ### num_Quo: function 14 -/
def num_Quo.f (k : Nat) (a0 : Int) (a1 : Int) : Option (Int × Int) := if a1 = 0 then (some (0, 11)) else ((num_size.f a0).bind fun bt109 => ((num_size.f a1).bind fun bt111 => (if bt111.1 = 0 then (none) else ((num_signed.f k (IntKind.u64.wrap (Int.tdiv bt109.1 bt111.1)) (bt109.2 != bt111.2)).bind fun bt113 => (some (bt113.1, bt113.2))))))
theorem num_Quo.mono : ∀ a0 a1 k, LeO (num_Quo.f k a0 a1) (num_Quo.f (k + 1) a0 a1) := by
  intro a0 a1 k
  unfold num_Quo.f
  repeat' first
      | (with_reducible exact num_signed.mono _ _ _)
      | (with_reducible exact LeO.refl _)
      | (with_reducible exact LeO.none _)
      | (with_reducible refine LeO.ite ?_ ?_)
      | (with_reducible refine LeO.bind ?_ (fun _ => ?_))
      | exact num_signed.mono _ _ _
      | exact LeO.none _
      | refine LeO.ite ?_ ?_
      | refine LeO.bind ?_ (fun _ => ?_)
set_option maxHeartbeats 8000000 in
set_option maxRecDepth 100000 in
theorem num_Quo.calls (k : Nat) (a0 : Int) (a1 : Int) (r1 : Int) (r2 : Int) (w : World) (h : num_Quo.f k a0 a1 = some (r1, r2)) :
    Calls Try.prog 14 #[.int .i64 a0, .int .i64 a1] w fun e w' => e = .returned (.tuple #[.int .i64 r1, .int .i64 r2]) ∧ Drawn0 w w' := by
  have H : (if a1 = 0 then (some (0, 11)) else ((num_size.f a0).bind fun bt109 => ((num_size.f a1).bind fun bt111 => (if bt111.1 = 0 then (none) else ((num_signed.f k (IntKind.u64.wrap (Int.tdiv bt109.1 bt111.1)) (bt109.2 != bt111.2)).bind fun bt113 => (some (bt113.1, bt113.2))))))) = some (r1, r2) := h
  clear h
  by_cases c3 : a1 = 0
  · rw [if_pos c3] at H
    have c3b0 : (a1 == 0) = true := beq_iff_eq.mpr c3
    have c3b1 : (a1 != 0) = false := bne_eq_false_iff_eq.mpr c3
    clear c3
    simp only [Option.some.injEq, Prod.mk.injEq] at H
    obtain ⟨rfl, rfl⟩ := H
    go_enter Try.func14, Try.ntmps14
    go_wp2
    go_ret2
    exact ⟨by first | rfl | (simp; done) | (simp [*]; done), by repeat (first | exact Drawn0.refl _ | apply Drawn0.step)⟩
  · rw [if_neg c3] at H
    have c3b0 : (a1 == 0) = false := beq_eq_false_iff_ne.mpr c3
    have c3b1 : (a1 != 0) = true := bne_iff_ne.mpr c3
    replace H := Option.bind_eq_some_iff.mp H
    obtain ⟨⟨t109, t110⟩, A40, H⟩ := H
    replace H : ((num_size.f a1).bind fun bt111 => (if bt111.1 = 0 then (none) else ((num_signed.f k (IntKind.u64.wrap (Int.tdiv t109 bt111.1)) (t110 != bt111.2)).bind fun bt113 => (some (bt113.1, bt113.2))))) = some (r1, r2) := H
    have A4 := Aside0.mk A40
    clear A40
    replace H := Option.bind_eq_some_iff.mp H
    obtain ⟨⟨t111, t112⟩, A50, H⟩ := H
    replace H : (if t111 = 0 then (none) else ((num_signed.f k (IntKind.u64.wrap (Int.tdiv t109 t111)) (t110 != t112)).bind fun bt113 => (some (bt113.1, bt113.2)))) = some (r1, r2) := H
    have A5 := Aside0.mk A50
    clear A50
    by_cases c6 : t111 = 0
    · rw [if_pos c6] at H
      exact absurd H (by simp)
    · rw [if_neg c6] at H
      have c6b0 : (t111 == 0) = false := beq_eq_false_iff_ne.mpr c6
      have c6b1 : (t111 != 0) = true := bne_iff_ne.mpr c6
      replace H := Option.bind_eq_some_iff.mp H
      obtain ⟨⟨t113, t114⟩, A70, H⟩ := H
      replace H : (some (t113, t114)) = some (r1, r2) := H
      have A7 := Aside0.mk A70
      clear A70
      simp only [Option.some.injEq, Prod.mk.injEq] at H
      obtain ⟨rfl, rfl⟩ := H
      go_enter Try.func14, Try.ntmps14
      go_wp2_with (first | ((with_reducible refine gate_callee (f := 38) rfl ?_); refine goesL_ (some 14) rfl rfl Try.func38 (by kernel_rfl) rfl #[.int .i64 a0] rfl (by (try simp only [List.map_toArray, List.map_cons, List.map_nil]); first | done | rfl | (simp only [List.length_drop, List.length_take]; rfl)) ?_; (with_reducible refine (num_size.calls a0 t109 t110 _ A4.out).mono ?_); rintro e w' ⟨rfl, ⟨nd, rfl⟩⟩; refine ⟨_, rfl, ?_⟩) | ((with_reducible refine gate_callee (f := 38) rfl ?_); refine goesL_ (some 19) rfl rfl Try.func38 (by kernel_rfl) rfl #[.int .i64 a1] rfl (by (try simp only [List.map_toArray, List.map_cons, List.map_nil]); first | done | rfl | (simp only [List.length_drop, List.length_take]; rfl)) ?_; (with_reducible refine (num_size.calls a1 t111 t112 _ A5.out).mono ?_); rintro e w' ⟨rfl, ⟨nd, rfl⟩⟩; refine ⟨_, rfl, ?_⟩) | ((with_reducible refine gate_callee (f := 40) rfl ?_); refine goesL_ (some 28) rfl rfl Try.func40 (by kernel_rfl) rfl #[.int .u64 (IntKind.u64.wrap (Int.tdiv t109 t111)), .bool (t110 != t112)] rfl (by (try simp only [List.map_toArray, List.map_cons, List.map_nil]); first | done | rfl | (simp only [List.length_drop, List.length_take]; rfl)) ?_; (with_reducible refine (num_signed.calls k (IntKind.u64.wrap (Int.tdiv t109 t111)) (t110 != t112) t113 t114 _ A7.out).mono ?_); rintro e w' ⟨rfl, ⟨nd, rfl⟩⟩; refine ⟨_, rfl, ?_⟩))
      go_ret2
      exact ⟨by first | rfl | (simp; done) | (simp [*]; done), by repeat (first | exact Drawn0.refl _ | apply Drawn0.step)⟩

/-! ### num_Add: function 19 -/
def num_Add.f (a0 : Int) (a1 : Int) : Option (Int × Int) := if ((decide ((wrap64 (a0 + a1)) < a0)) != (decide (a1 < 0))) = true then (some (0, 10)) else (some (wrap64 (a0 + a1), 0))
set_option maxHeartbeats 8000000 in
set_option maxRecDepth 100000 in
theorem num_Add.calls (a0 : Int) (a1 : Int) (r1 : Int) (r2 : Int) (w : World) (h : num_Add.f a0 a1 = some (r1, r2)) :
    Calls Try.prog 19 #[.int .i64 a0, .int .i64 a1] w fun e w' => e = .returned (.tuple #[.int .i64 r1, .int .i64 r2]) ∧ Drawn0 w w' := by
  have H : (if ((decide ((wrap64 (a0 + a1)) < a0)) != (decide (a1 < 0))) = true then (some (0, 10)) else (some (wrap64 (a0 + a1), 0))) = some (r1, r2) := h
  clear h
  by_cases c3 : ((decide ((wrap64 (a0 + a1)) < a0)) != (decide (a1 < 0))) = true
  · rw [if_pos c3] at H
    have c3b0 : ((decide ((wrap64 (a0 + a1)) < a0)) != (decide (a1 < 0))) = true := c3
    (try (have c3b1 : decide ((decide ((wrap64 (a0 + a1)) < a0)) = (decide (a1 < 0))) = false := by simpa using c3))
    (try (have c3b2 : ((decide ((wrap64 (a0 + a1)) < a0)) == (decide (a1 < 0))) = false := by simpa using c3))
    (try (have c3b3 : ¬ ((decide ((wrap64 (a0 + a1)) < a0)) = (decide (a1 < 0))) := by simpa using c3))
    clear c3
    simp only [Option.some.injEq, Prod.mk.injEq] at H
    obtain ⟨rfl, rfl⟩ := H
    go_enter Try.func19, Try.ntmps19
    go_wp2
    go_ret2
    exact ⟨by first | rfl | (simp; done) | (simp [*]; done), by repeat (first | exact Drawn0.refl _ | apply Drawn0.step)⟩
  · rw [if_neg c3] at H
    have c3b0 : ((decide ((wrap64 (a0 + a1)) < a0)) != (decide (a1 < 0))) = false := by simpa using c3
    (try (have c3b1 : decide ((decide ((wrap64 (a0 + a1)) < a0)) = (decide (a1 < 0))) = true := by simpa using c3))
    (try (have c3b2 : ((decide ((wrap64 (a0 + a1)) < a0)) == (decide (a1 < 0))) = true := by simpa using c3))
    clear c3
    simp only [Option.some.injEq, Prod.mk.injEq] at H
    obtain ⟨rfl, rfl⟩ := H
    go_enter Try.func19, Try.ntmps19
    go_wp2
    go_ret2
    exact ⟨by first | rfl | (simp; done) | (simp [*]; done), by repeat (first | exact Drawn0.refl _ | apply Drawn0.step)⟩

/-! ### num_Show: function 31 -/
def decF : Nat → Nat → List Nat → List Nat
  | 0, _, acc => acc
  | f + 1, x, acc => if x / 10 = 0 then (48 + x % 10) :: acc else decF f (x / 10) ((48 + x % 10) :: acc)

def roomL (j : Nat) (ds : List Nat) : List Value := List.replicate j (Value.int .u8 0) ++ ds.map (fun d : Nat => Value.int .u8 (d : Int))

theorem room_set (m : Nat) (ds : List Nat) (d : Nat) : (roomL (m + 1) ds).toArray.setIfInBounds m (Value.int .u8 (d : Int)) = (roomL m (d :: ds)).toArray := by
  unfold roomL
  simp [List.replicate_succ']

theorem room_get (m : Nat) (ds : List Nat) : (roomL (m + 1) ds).toArray[m]? = some (Value.int .u8 0) := by
  unfold roomL
  simp [List.getElem?_append]

def showL (b : Bool) (ds : List Nat) : List Int := (if b then 45 :: ds else ds).map fun d : Nat => (d : Int)

theorem reads_room (w : World) (j : Nat) (ds : List Nat) (n : Nat) (hn : ds.length = n) (hb : n ≤ 100) :
    ReadsInt (w.alloc (Obj.cells (roomL j ds).toArray 75)) .u8 (some { block := w.heap.size, off := j }) n (ds.map fun d : Nat => (d : Int)) := by
  subst hn
  refine ⟨by simp, by omega, fun h => ⟨_, rfl, fun i hi => ?_⟩⟩
  have : (w.alloc (Obj.cells (roomL j ds).toArray 75)).cell? ⟨w.heap.size, j + i, none⟩ = (roomL j ds).toArray[j + i]? := World.cell?_alloc_new w _ 75 _
  have e : (⟨w.heap.size, j, none⟩ : Addr).add i = ⟨w.heap.size, j + i, none⟩ := by
    unfold Addr.add
    split
    · subst_vars; rfl
    · rfl
  rw [e, this]
  simp [roomL, hi]

theorem slice20 (b m : Nat) (hm : m < 20) (w : World) : (Instr.sliceAt 75 (.pointer (some ⟨b, 0, none⟩)) (some (.int .i64 (m : Int))) none none).run Try.prog w = .ok (.slice (some ⟨b, m, none⟩) (20 - m) (20 - m)) w := by
  have ha : Try.prog.arrayLen 75 = 20 := by kernel_rfl
  rw [run_sliceAt_array_l w 75 _ (by rw [Try.underlying75]; kernel_rfl) .i64 m (by omega) (by rw [ha]; omega), ha]
  have hs : ((sizeOf (Try.prog.elem 75)).run Try.prog w) = .ok 1 w := by kernel_rfl
  rw [hs]
  show Result.ok (slicedAt _ _ _ _ _) _ = _
  unfold slicedAt
  rw [if_neg (by omega)]
  unfold Addr.add
  split
  · rename_i h
    obtain rfl : m = 0 := by simpa using h
    rfl
  · simp

set_option maxHeartbeats 400000 in
set_option maxRecDepth 100000 in
theorem num_Show.any (n : Int) (x : Nat) (b : Bool) (w : World) (hx : num_size.f n = some ((x : Int), b)) (hlt : x < 10 ^ 19) :
    Calls Try.prog 31 #[.int .i64 n] w fun e w' => e = .returned (.string (strOfNums (showL b (decF 19 x [])))) ∧ Below w.heap.size w w' := by
  have H := Lib.hid hx; clear hx
  go_enter Try.func31, Try.ntmps31
  go_wp2_with (go_at_call 38; refine (num_size.calls _ _ _ _ H.out).mono ?_; rintro e w' ⟨rfl, ⟨nd, rfl⟩⟩)
  clear H
  obtain ⟨wd, hwd⟩ : ∃ wd, wd = w.drewN nd := ⟨_, rfl⟩
  have hsz : wd.heap.size = w.heap.size := by rw [hwd]; simp
  have HB : Hid (Below w.heap.size w wd) := by rw [hwd]; exact pw_below_drewN (Below.refl _ _) nd
  rw [← hwd, ← hsz]
  clear hwd hsz
  go_loopw [3, 6] (fun v3 v6 wr => ∃ (j y : Nat) (ds : List Nat), 2 ≤ j ∧ j ≤ 20 ∧ v6 = .int .i64 (j : Int) ∧ v3 = .int .u64 (y : Int) ∧ wr = wd.alloc (.cells (roomL j ds).toArray 75) ∧ y < 10 ^ (j - 1) ∧ decF (j - 1) y ds = decF 19 x [] ∧ ds.length + j = 20)
    (fun v3 v6 wr => (intOf v6).toNat)
  case atStart => exact ⟨20, x, [], by omega, by omega, rfl, rfl, by kernel_rfl, hlt, rfl, rfl⟩
  case round =>
    clear hlt
    obtain ⟨j, y, ds, hj1, hj2, rfl, rfl, rfl, hy, hd, hl⟩ := hrel
    have HD := Lib.hid hd; clear hd
    obtain ⟨m, rfl⟩ : ∃ m, j = m + 1 + 1 := ⟨j - 2, by omega⟩
    have HY := Lib.hid hy; clear hy
    have HL := Lib.hid hl; clear hl
    have hyb : y ≤ 10000000000000000000 := by
      have h1 := HY.out
      have h2 : 10 ^ (m + 1 + 1 - 1) ≤ 10 ^ 19 := Nat.pow_le_pow_right (by omega) (by omega)
      omega
    have hc : ∀ c i, (wd.alloc (Obj.cells c 75)).cell? { block := wd.heap.size, off := i } = c[i]? := fun c i => World.cell?_alloc_new _ _ _ _
    have hf : ∀ c i, (wd.alloc (Obj.cells c 75)).frozen? { block := wd.heap.size, off := i } = false := fun c i => World.frozen?_alloc_new _ _ _ _
    have hs : ∀ c i v, (wd.alloc (Obj.cells c 75)).setCell { block := wd.heap.size, off := i } v = wd.alloc (Obj.cells (c.setIfInBounds i v) 75) := fun c i v => World.setCell_alloc_at _ _ _ _ _ rfl
    have hg1 := room_get (m + 1) ds
    have hg2 := room_get m ((48 + y % 10) :: ds)
    have hs1 : (roomL (m + 1 + 1) ds).toArray.setIfInBounds (m + 1) (Value.int .u8 (48 + (y : Int) % 10)) = (roomL (m + 1) ((48 + y % 10) :: ds)).toArray := by
      have := room_set (m + 1) ds (48 + y % 10); rw [← this]; simp
    have hs2 : (roomL (m + 1) ((48 + y % 10) :: ds)).toArray.setIfInBounds m (Value.int .u8 45) = (roomL m (45 :: (48 + y % 10) :: ds)).toArray := room_set m _ 45
    have hsl1 := slice20 wd.heap.size (m + 1) (by omega)
    have hsl2 := slice20 wd.heap.size m (by omega)
    rw [Int.natCast_add, Int.natCast_one, show 20 - (m + 1) = 19 - m from by omega] at hsl1
    have hr1 := string_of_reads (P := Try.prog) (src := 76) (dst := 9) (c := 19 - m) Try.underlying76 Try.underlying5 Try.underlying9 (reads_room wd (m + 1) ((48 + y % 10) :: ds) (19 - m) (by have := HL.out; simp; omega) (by omega))
    have hr2 := string_of_reads (P := Try.prog) (src := 76) (dst := 9) (c := 20 - m) Try.underlying76 Try.underlying5 Try.underlying9 (reads_room wd m (45 :: (48 + y % 10) :: ds) (20 - m) (by have := HL.out; simp; omega) (by omega))
    go_wp2
    · rename_i hz hb
      subst hb
      go_ret
      refine ⟨congrArg (fun l => Ending.returned (.string (strOfNums l))) ?_, HB.out.alloc (by simpa using HB.out.size) _⟩
      rw [← HD.out]
      have hz' : y / 10 = 0 := by have := of_decide_eq_true hz; omega
      simp [showL, decF, hz']
    · rename_i hz hb
      subst hb
      go_ret
      refine ⟨congrArg (fun l => Ending.returned (.string (strOfNums l))) ?_, HB.out.alloc (by simpa using HB.out.size) _⟩
      rw [← HD.out]
      have hz' : y / 10 = 0 := by have := of_decide_eq_true hz; omega
      simp [showL, decF, hz']
    · rename_i hz
      have hz' : ¬ y / 10 = 0 := by have := of_decide_eq_false hz; omega
      have hm : m ≠ 0 := by
        rintro rfl
        have := HY.out
        simp at this
        omega
      refine ⟨⟨m + 1, y / 10, (48 + y % 10) :: ds, by omega, by omega, by simp, by simp, rfl, ?_, ?_, by have := HL.out; simp; omega⟩, ?_⟩
      · have := HY.out
        simp only [Nat.add_sub_cancel, Nat.pow_succ] at this ⊢
        obtain ⟨q, rfl⟩ : ∃ q, m = q + 1 := ⟨m - 1, by omega⟩
        simp only [Nat.pow_succ] at this ⊢
        omega
      · rw [← HD.out]
        simp [decF, hz']
      · simp [intOf]
        omega

theorem num_Show.size_eq (a : Int) (h : -9223372036854775808 ≤ a ∧ a ≤ 9223372036854775807) : num_size.f a = some ((a.natAbs : Int), decide (a < 0)) := by
  have u64w : ∀ x : Int, IntKind.u64.wrap x = x % 18446744073709551616 := fun x => rfl
  unfold num_size.f
  by_cases c : a < 0
  · rw [if_pos c, u64w, u64w, decide_eq_true c]
    congr 2
    omega
  · rw [if_neg c, u64w, decide_eq_false c]
    congr 2
    omega

/-- The text of a number. -/
def showS (n : Int) : ByteArray := strOfNums (showL (decide (n < 0)) (decF 19 n.natAbs []))
def num_Show.f (a0 : Int) : Option ByteArray := if -9223372036854775808 ≤ a0 ∧ a0 ≤ 9223372036854775807 then some (showS a0) else none
theorem num_Show.calls (a0 : Int) (r : ByteArray) (w : World) (h : num_Show.f a0 = some r) :
    Calls Try.prog 31 #[.int .i64 a0] w fun e w' => e = .returned (.string r) ∧ Below w.heap.size w w' := by
  unfold num_Show.f at h
  split at h
  · rename_i hn
    simp only [Option.some.injEq] at h
    subst h
    exact num_Show.any a0 a0.natAbs (decide (a0 < 0)) w (num_Show.size_eq a0 hn) (by omega)
  · simp at h

/-! ### rescindlaw01_live: function 18 -/
def rescindlaw01_live.f (k : Nat)  : Option (Bool) := (num_Add.f 2 3).bind fun bt115 => ((num_Mul.f k (-4) 5).bind fun bt117 => ((num_Quo.f k 1 0).bind fun bt119 => (if bt115.1 = 5 then (if bt115.2 = 0 then (if bt117.1 = (-20) then (if bt117.2 = 0 then (if bt119.2 = 11 then ((num_Show.f (-70)).bind fun t121 => (some (t121.toList == ([45, 55, 48] : List UInt8)))) else (some false)) else (some false)) else (some false)) else (some false)) else (some false))))
theorem rescindlaw01_live.mono : ∀ k, LeO (rescindlaw01_live.f k ) (rescindlaw01_live.f (k + 1) ) := by
  intro  k
  unfold rescindlaw01_live.f
  repeat' first
      | (with_reducible exact num_Mul.mono _ _ _)
      | (with_reducible exact num_Quo.mono _ _ _)
      | (with_reducible exact LeO.refl _)
      | (with_reducible exact LeO.none _)
      | (with_reducible refine LeO.ite ?_ ?_)
      | (with_reducible refine LeO.bind ?_ (fun _ => ?_))
      | exact num_Mul.mono _ _ _
      | exact num_Quo.mono _ _ _
      | exact LeO.none _
      | refine LeO.ite ?_ ?_
      | refine LeO.bind ?_ (fun _ => ?_)
set_option maxHeartbeats 8000000 in
set_option maxRecDepth 100000 in
theorem rescindlaw01_live.calls (k : Nat)  (r : Bool) (w : World) (h : rescindlaw01_live.f k  = some r) :
    Calls Try.prog 18 #[] w fun e w' => e = .returned (.bool r) ∧ Below w.heap.size w w' := by
  have HB := Aside0.mk (Below.refl w.heap.size w)
  have H : ((num_Add.f 2 3).bind fun bt115 => ((num_Mul.f k (-4) 5).bind fun bt117 => ((num_Quo.f k 1 0).bind fun bt119 => (if bt115.1 = 5 then (if bt115.2 = 0 then (if bt117.1 = (-20) then (if bt117.2 = 0 then (if bt119.2 = 11 then ((num_Show.f (-70)).bind fun t121 => (some (t121.toList == ([45, 55, 48] : List UInt8)))) else (some false)) else (some false)) else (some false)) else (some false)) else (some false))))) = some r := h
  clear h
  replace H := Option.bind_eq_some_iff.mp H
  obtain ⟨⟨t115, t116⟩, A10, H⟩ := H
  replace H : ((num_Mul.f k (-4) 5).bind fun bt117 => ((num_Quo.f k 1 0).bind fun bt119 => (if t115 = 5 then (if t116 = 0 then (if bt117.1 = (-20) then (if bt117.2 = 0 then (if bt119.2 = 11 then ((num_Show.f (-70)).bind fun t121 => (some (t121.toList == ([45, 55, 48] : List UInt8)))) else (some false)) else (some false)) else (some false)) else (some false)) else (some false)))) = some r := H
  have A1 := Aside0.mk A10
  clear A10
  replace H := Option.bind_eq_some_iff.mp H
  obtain ⟨⟨t117, t118⟩, A20, H⟩ := H
  replace H : ((num_Quo.f k 1 0).bind fun bt119 => (if t115 = 5 then (if t116 = 0 then (if t117 = (-20) then (if t118 = 0 then (if bt119.2 = 11 then ((num_Show.f (-70)).bind fun t121 => (some (t121.toList == ([45, 55, 48] : List UInt8)))) else (some false)) else (some false)) else (some false)) else (some false)) else (some false))) = some r := H
  have A2 := Aside0.mk A20
  clear A20
  replace H := Option.bind_eq_some_iff.mp H
  obtain ⟨⟨t119, t120⟩, A30, H⟩ := H
  replace H : (if t115 = 5 then (if t116 = 0 then (if t117 = (-20) then (if t118 = 0 then (if t120 = 11 then ((num_Show.f (-70)).bind fun t121 => (some (t121.toList == ([45, 55, 48] : List UInt8)))) else (some false)) else (some false)) else (some false)) else (some false)) else (some false)) = some r := H
  have A3 := Aside0.mk A30
  clear A30
  by_cases c4 : t115 = 5
  · rw [if_pos c4] at H
    have c4b0 : (t115 == 5) = true := beq_iff_eq.mpr c4
    have c4b1 : (t115 != 5) = false := bne_eq_false_iff_eq.mpr c4
    clear c4
    by_cases c5 : t116 = 0
    · rw [if_pos c5] at H
      have c5b0 : (t116 == 0) = true := beq_iff_eq.mpr c5
      have c5b1 : (t116 != 0) = false := bne_eq_false_iff_eq.mpr c5
      clear c5
      by_cases c6 : t117 = (-20)
      · rw [if_pos c6] at H
        have c6b0 : (t117 == (-20)) = true := beq_iff_eq.mpr c6
        have c6b1 : (t117 != (-20)) = false := bne_eq_false_iff_eq.mpr c6
        clear c6
        by_cases c7 : t118 = 0
        · rw [if_pos c7] at H
          have c7b0 : (t118 == 0) = true := beq_iff_eq.mpr c7
          have c7b1 : (t118 != 0) = false := bne_eq_false_iff_eq.mpr c7
          clear c7
          by_cases c8 : t120 = 11
          · rw [if_pos c8] at H
            have c8b0 : (t120 == 11) = true := beq_iff_eq.mpr c8
            have c8b1 : (t120 != 11) = false := bne_eq_false_iff_eq.mpr c8
            clear c8
            replace H := Option.bind_eq_some_iff.mp H
            obtain ⟨t121, A90, H⟩ := H
            replace H : (some (t121.toList == ([45, 55, 48] : List UInt8))) = some r := H
            have A9 := Aside0.mk A90
            clear A90
            obtain rfl := Option.some.inj H
            go_enter Try.func18, Try.ntmps18
            go_wp2_with (first | ((with_reducible refine gate_callee (f := 19) rfl ?_); refine goesL_ (some 8) rfl rfl Try.func19 (by kernel_rfl) rfl #[.int .i64 2, .int .i64 3] rfl (by (try simp only [List.map_toArray, List.map_cons, List.map_nil]); first | done | rfl | (simp only [List.length_drop, List.length_take]; rfl)) ?_; (with_reducible refine (num_Add.calls 2 3 t115 t116 _ A1.out).mono ?_); rintro e w' ⟨rfl, ⟨nd, rfl⟩⟩; refine ⟨_, rfl, ?_⟩) | ((with_reducible refine gate_callee (f := 12) rfl ?_); refine goesL_ (some 12) rfl rfl Try.func12 (by kernel_rfl) rfl #[.int .i64 (-4), .int .i64 5] rfl (by (try simp only [List.map_toArray, List.map_cons, List.map_nil]); first | done | rfl | (simp only [List.length_drop, List.length_take]; rfl)) ?_; (with_reducible refine (num_Mul.calls k (-4) 5 t117 t118 _ A2.out).mono ?_); rintro e w' ⟨rfl, ⟨nd, rfl⟩⟩; refine ⟨_, rfl, ?_⟩) | ((with_reducible refine gate_callee (f := 14) rfl ?_); refine goesL_ (some 16) rfl rfl Try.func14 (by kernel_rfl) rfl #[.int .i64 1, .int .i64 0] rfl (by (try simp only [List.map_toArray, List.map_cons, List.map_nil]); first | done | rfl | (simp only [List.length_drop, List.length_take]; rfl)) ?_; (with_reducible refine (num_Quo.calls k 1 0 t119 t120 _ A3.out).mono ?_); rintro e w' ⟨rfl, ⟨nd, rfl⟩⟩; refine ⟨_, rfl, ?_⟩) | (go_at_call 31; (with_reducible refine (num_Show.calls (-70) t121 _ A9.out).mono ?_); rintro e w10 ⟨rfl, hb⟩; have n0_ := Aside0.mk (below_step (by repeat (first | (with_reducible first | exact HB.out | apply below_alloc | apply pw_below_drewN | apply below_drew1) | exact HB.out)) hb); clear HB; have HB := n0_; clear n0_; (try clear hb); (try clear hb2); (try clear hk); (try clear hi)))
            go_ret
            exact ⟨by first | rfl | (simp [errW_none, errW_some] <;> rfl) | (simp [*, errW_none, errW_some] <;> rfl), by repeat (first | (with_reducible first | exact HB.out | apply below_alloc | apply pw_below_drewN | apply below_drew1) | exact HB.out)⟩
          · rw [if_neg c8] at H
            have c8b0 : (t120 == 11) = false := beq_eq_false_iff_ne.mpr c8
            have c8b1 : (t120 != 11) = true := bne_iff_ne.mpr c8
            obtain rfl := Option.some.inj H
            go_enter Try.func18, Try.ntmps18
            go_wp2_with (first | ((with_reducible refine gate_callee (f := 19) rfl ?_); refine goesL_ (some 8) rfl rfl Try.func19 (by kernel_rfl) rfl #[.int .i64 2, .int .i64 3] rfl (by (try simp only [List.map_toArray, List.map_cons, List.map_nil]); first | done | rfl | (simp only [List.length_drop, List.length_take]; rfl)) ?_; (with_reducible refine (num_Add.calls 2 3 t115 t116 _ A1.out).mono ?_); rintro e w' ⟨rfl, ⟨nd, rfl⟩⟩; refine ⟨_, rfl, ?_⟩) | ((with_reducible refine gate_callee (f := 12) rfl ?_); refine goesL_ (some 12) rfl rfl Try.func12 (by kernel_rfl) rfl #[.int .i64 (-4), .int .i64 5] rfl (by (try simp only [List.map_toArray, List.map_cons, List.map_nil]); first | done | rfl | (simp only [List.length_drop, List.length_take]; rfl)) ?_; (with_reducible refine (num_Mul.calls k (-4) 5 t117 t118 _ A2.out).mono ?_); rintro e w' ⟨rfl, ⟨nd, rfl⟩⟩; refine ⟨_, rfl, ?_⟩) | ((with_reducible refine gate_callee (f := 14) rfl ?_); refine goesL_ (some 16) rfl rfl Try.func14 (by kernel_rfl) rfl #[.int .i64 1, .int .i64 0] rfl (by (try simp only [List.map_toArray, List.map_cons, List.map_nil]); first | done | rfl | (simp only [List.length_drop, List.length_take]; rfl)) ?_; (with_reducible refine (num_Quo.calls k 1 0 t119 t120 _ A3.out).mono ?_); rintro e w' ⟨rfl, ⟨nd, rfl⟩⟩; refine ⟨_, rfl, ?_⟩))
            go_ret
            exact ⟨by first | rfl | (simp [errW_none, errW_some] <;> rfl) | (simp [*, errW_none, errW_some] <;> rfl), by repeat (first | (with_reducible first | exact HB.out | apply below_alloc | apply pw_below_drewN | apply below_drew1) | exact HB.out)⟩
        · rw [if_neg c7] at H
          have c7b0 : (t118 == 0) = false := beq_eq_false_iff_ne.mpr c7
          have c7b1 : (t118 != 0) = true := bne_iff_ne.mpr c7
          obtain rfl := Option.some.inj H
          go_enter Try.func18, Try.ntmps18
          go_wp2_with (first | ((with_reducible refine gate_callee (f := 19) rfl ?_); refine goesL_ (some 8) rfl rfl Try.func19 (by kernel_rfl) rfl #[.int .i64 2, .int .i64 3] rfl (by (try simp only [List.map_toArray, List.map_cons, List.map_nil]); first | done | rfl | (simp only [List.length_drop, List.length_take]; rfl)) ?_; (with_reducible refine (num_Add.calls 2 3 t115 t116 _ A1.out).mono ?_); rintro e w' ⟨rfl, ⟨nd, rfl⟩⟩; refine ⟨_, rfl, ?_⟩) | ((with_reducible refine gate_callee (f := 12) rfl ?_); refine goesL_ (some 12) rfl rfl Try.func12 (by kernel_rfl) rfl #[.int .i64 (-4), .int .i64 5] rfl (by (try simp only [List.map_toArray, List.map_cons, List.map_nil]); first | done | rfl | (simp only [List.length_drop, List.length_take]; rfl)) ?_; (with_reducible refine (num_Mul.calls k (-4) 5 t117 t118 _ A2.out).mono ?_); rintro e w' ⟨rfl, ⟨nd, rfl⟩⟩; refine ⟨_, rfl, ?_⟩) | ((with_reducible refine gate_callee (f := 14) rfl ?_); refine goesL_ (some 16) rfl rfl Try.func14 (by kernel_rfl) rfl #[.int .i64 1, .int .i64 0] rfl (by (try simp only [List.map_toArray, List.map_cons, List.map_nil]); first | done | rfl | (simp only [List.length_drop, List.length_take]; rfl)) ?_; (with_reducible refine (num_Quo.calls k 1 0 t119 t120 _ A3.out).mono ?_); rintro e w' ⟨rfl, ⟨nd, rfl⟩⟩; refine ⟨_, rfl, ?_⟩))
          go_ret
          exact ⟨by first | rfl | (simp [errW_none, errW_some] <;> rfl) | (simp [*, errW_none, errW_some] <;> rfl), by repeat (first | (with_reducible first | exact HB.out | apply below_alloc | apply pw_below_drewN | apply below_drew1) | exact HB.out)⟩
      · rw [if_neg c6] at H
        have c6b0 : (t117 == (-20)) = false := beq_eq_false_iff_ne.mpr c6
        have c6b1 : (t117 != (-20)) = true := bne_iff_ne.mpr c6
        obtain rfl := Option.some.inj H
        go_enter Try.func18, Try.ntmps18
        go_wp2_with (first | ((with_reducible refine gate_callee (f := 19) rfl ?_); refine goesL_ (some 8) rfl rfl Try.func19 (by kernel_rfl) rfl #[.int .i64 2, .int .i64 3] rfl (by (try simp only [List.map_toArray, List.map_cons, List.map_nil]); first | done | rfl | (simp only [List.length_drop, List.length_take]; rfl)) ?_; (with_reducible refine (num_Add.calls 2 3 t115 t116 _ A1.out).mono ?_); rintro e w' ⟨rfl, ⟨nd, rfl⟩⟩; refine ⟨_, rfl, ?_⟩) | ((with_reducible refine gate_callee (f := 12) rfl ?_); refine goesL_ (some 12) rfl rfl Try.func12 (by kernel_rfl) rfl #[.int .i64 (-4), .int .i64 5] rfl (by (try simp only [List.map_toArray, List.map_cons, List.map_nil]); first | done | rfl | (simp only [List.length_drop, List.length_take]; rfl)) ?_; (with_reducible refine (num_Mul.calls k (-4) 5 t117 t118 _ A2.out).mono ?_); rintro e w' ⟨rfl, ⟨nd, rfl⟩⟩; refine ⟨_, rfl, ?_⟩) | ((with_reducible refine gate_callee (f := 14) rfl ?_); refine goesL_ (some 16) rfl rfl Try.func14 (by kernel_rfl) rfl #[.int .i64 1, .int .i64 0] rfl (by (try simp only [List.map_toArray, List.map_cons, List.map_nil]); first | done | rfl | (simp only [List.length_drop, List.length_take]; rfl)) ?_; (with_reducible refine (num_Quo.calls k 1 0 t119 t120 _ A3.out).mono ?_); rintro e w' ⟨rfl, ⟨nd, rfl⟩⟩; refine ⟨_, rfl, ?_⟩))
        go_ret
        exact ⟨by first | rfl | (simp [errW_none, errW_some] <;> rfl) | (simp [*, errW_none, errW_some] <;> rfl), by repeat (first | (with_reducible first | exact HB.out | apply below_alloc | apply pw_below_drewN | apply below_drew1) | exact HB.out)⟩
    · rw [if_neg c5] at H
      have c5b0 : (t116 == 0) = false := beq_eq_false_iff_ne.mpr c5
      have c5b1 : (t116 != 0) = true := bne_iff_ne.mpr c5
      obtain rfl := Option.some.inj H
      go_enter Try.func18, Try.ntmps18
      go_wp2_with (first | ((with_reducible refine gate_callee (f := 19) rfl ?_); refine goesL_ (some 8) rfl rfl Try.func19 (by kernel_rfl) rfl #[.int .i64 2, .int .i64 3] rfl (by (try simp only [List.map_toArray, List.map_cons, List.map_nil]); first | done | rfl | (simp only [List.length_drop, List.length_take]; rfl)) ?_; (with_reducible refine (num_Add.calls 2 3 t115 t116 _ A1.out).mono ?_); rintro e w' ⟨rfl, ⟨nd, rfl⟩⟩; refine ⟨_, rfl, ?_⟩) | ((with_reducible refine gate_callee (f := 12) rfl ?_); refine goesL_ (some 12) rfl rfl Try.func12 (by kernel_rfl) rfl #[.int .i64 (-4), .int .i64 5] rfl (by (try simp only [List.map_toArray, List.map_cons, List.map_nil]); first | done | rfl | (simp only [List.length_drop, List.length_take]; rfl)) ?_; (with_reducible refine (num_Mul.calls k (-4) 5 t117 t118 _ A2.out).mono ?_); rintro e w' ⟨rfl, ⟨nd, rfl⟩⟩; refine ⟨_, rfl, ?_⟩) | ((with_reducible refine gate_callee (f := 14) rfl ?_); refine goesL_ (some 16) rfl rfl Try.func14 (by kernel_rfl) rfl #[.int .i64 1, .int .i64 0] rfl (by (try simp only [List.map_toArray, List.map_cons, List.map_nil]); first | done | rfl | (simp only [List.length_drop, List.length_take]; rfl)) ?_; (with_reducible refine (num_Quo.calls k 1 0 t119 t120 _ A3.out).mono ?_); rintro e w' ⟨rfl, ⟨nd, rfl⟩⟩; refine ⟨_, rfl, ?_⟩))
      go_ret
      exact ⟨by first | rfl | (simp [errW_none, errW_some] <;> rfl) | (simp [*, errW_none, errW_some] <;> rfl), by repeat (first | (with_reducible first | exact HB.out | apply below_alloc | apply pw_below_drewN | apply below_drew1) | exact HB.out)⟩
  · rw [if_neg c4] at H
    have c4b0 : (t115 == 5) = false := beq_eq_false_iff_ne.mpr c4
    have c4b1 : (t115 != 5) = true := bne_iff_ne.mpr c4
    obtain rfl := Option.some.inj H
    go_enter Try.func18, Try.ntmps18
    go_wp2_with (first | ((with_reducible refine gate_callee (f := 19) rfl ?_); refine goesL_ (some 8) rfl rfl Try.func19 (by kernel_rfl) rfl #[.int .i64 2, .int .i64 3] rfl (by (try simp only [List.map_toArray, List.map_cons, List.map_nil]); first | done | rfl | (simp only [List.length_drop, List.length_take]; rfl)) ?_; (with_reducible refine (num_Add.calls 2 3 t115 t116 _ A1.out).mono ?_); rintro e w' ⟨rfl, ⟨nd, rfl⟩⟩; refine ⟨_, rfl, ?_⟩) | ((with_reducible refine gate_callee (f := 12) rfl ?_); refine goesL_ (some 12) rfl rfl Try.func12 (by kernel_rfl) rfl #[.int .i64 (-4), .int .i64 5] rfl (by (try simp only [List.map_toArray, List.map_cons, List.map_nil]); first | done | rfl | (simp only [List.length_drop, List.length_take]; rfl)) ?_; (with_reducible refine (num_Mul.calls k (-4) 5 t117 t118 _ A2.out).mono ?_); rintro e w' ⟨rfl, ⟨nd, rfl⟩⟩; refine ⟨_, rfl, ?_⟩) | ((with_reducible refine gate_callee (f := 14) rfl ?_); refine goesL_ (some 16) rfl rfl Try.func14 (by kernel_rfl) rfl #[.int .i64 1, .int .i64 0] rfl (by (try simp only [List.map_toArray, List.map_cons, List.map_nil]); first | done | rfl | (simp only [List.length_drop, List.length_take]; rfl)) ?_; (with_reducible refine (num_Quo.calls k 1 0 t119 t120 _ A3.out).mono ?_); rintro e w' ⟨rfl, ⟨nd, rfl⟩⟩; refine ⟨_, rfl, ?_⟩))
    go_ret
    exact ⟨by first | rfl | (simp [errW_none, errW_some] <;> rfl) | (simp [*, errW_none, errW_some] <;> rfl), by repeat (first | (with_reducible first | exact HB.out | apply below_alloc | apply pw_below_drewN | apply below_drew1) | exact HB.out)⟩

/-! ### num_Sum: function 27 -/
def NumR (x : Int) : Prop := -9223372036854775808 ≤ x ∧ x ≤ 9223372036854775807
def numOk (x : Int) : Int × Int := if -9223372036854775808 ≤ x ∧ x ≤ 9223372036854775807 then (x, 0) else (0, 10)
theorem numOk_in {x : Int} (h : NumR x) : numOk x = (x, 0) := if_pos h
theorem numOk_out {x : Int} (h : ¬ NumR x) : numOk x = (0, 10) := if_neg h
theorem num_u64w (x : Int) : IntKind.u64.wrap x = x % 18446744073709551616 := rfl
/-- The two words of a sum, in memory: hi, then lo. -/
def W2 (w : World) (hi lo : Int) : World := (w.alloc (.cells #[.int .u64 hi] 66)).alloc (.cells #[.int .u64 lo] 66)

theorem add64_run (x y c : Int) (hx : 0 ≤ x) (hy : 0 ≤ y) (hc0 : 0 ≤ c) (hc : c ≤ 1) (w : World) :
    (callFunc 42 #[.int .u64 x, .int .u64 y, .int .u64 c]).run Try.prog w =
      .ok (.value (.tuple #[.int .u64 ((x + y + c) % 18446744073709551616), .int .u64 ((x + y + c) / 18446744073709551616)])) w := by
  rw [run_callFunc_extern Try.func42 (by kernel_rfl) (by kernel_rfl) (by kernel_rfl) (e := add64Entry) (by kernel_rfl), run_add64 x y c hx hy hc0 hc]
  rfl

theorem u64r (x : Int) : 0 ≤ IntKind.u64.wrap x ∧ IntKind.u64.wrap x < 18446744073709551616 := by rw [num_u64w]; omega

set_option maxRecDepth 100000 in
theorem num_Sum_take (n hi lo : Int) (w : World) (hh : 0 ≤ hi) (hl : 0 ≤ lo) (hl2 : lo < 18446744073709551616) :
    Calls Try.prog 41 #[.int .i64 n, .pointer (some ⟨w.heap.size + 1, 0, none⟩), .pointer (some ⟨w.heap.size, 0, none⟩)] (W2 w hi lo) fun e w' => e = .returned (.tuple #[]) ∧
      w' = W2 w ((hi + IntKind.u64.wrap (n / 9223372036854775808) + (lo + IntKind.u64.wrap n + 0) / 18446744073709551616) % 18446744073709551616) ((lo + IntKind.u64.wrap n + 0) % 18446744073709551616) := by
  unfold W2
  have hw0 := u64r n
  have hw1 := u64r (n / 9223372036854775808)
  obtain ⟨lo1, c, e1, e2, h1, hc0, hc1⟩ : ∃ lo1 c, lo1 = (lo + IntKind.u64.wrap n + 0) % 18446744073709551616 ∧ c = (lo + IntKind.u64.wrap n + 0) / 18446744073709551616 ∧ (∀ w, (callFunc 42 #[.int .u64 lo, .int .u64 (IntKind.u64.wrap n), .int .u64 0]).run Try.prog w = .ok (.value (.tuple #[.int .u64 lo1, .int .u64 c])) w) ∧ 0 ≤ c ∧ c ≤ 1 :=
    ⟨_, _, rfl, rfl, fun w => add64_run lo (IntKind.u64.wrap n) 0 hl hw0.1 (by omega) (by omega) w, by omega, by omega⟩
  rw [← e1, ← e2]
  clear e1 e2
  obtain ⟨hi1, c1, e1, h2⟩ : ∃ hi1 c1, hi1 = (hi + IntKind.u64.wrap (n / 9223372036854775808) + c) % 18446744073709551616 ∧ (∀ w, (callFunc 42 #[.int .u64 hi, .int .u64 (IntKind.u64.wrap (n / 9223372036854775808)), .int .u64 c]).run Try.prog w = .ok (.value (.tuple #[.int .u64 hi1, .int .u64 c1])) w) :=
    ⟨_, _, rfl, fun w => add64_run hi _ c hh hw1.1 hc0 hc1 w⟩
  rw [← e1]
  clear e1 hw0 hw1 hl2
  go_enter Try.func41, Try.ntmps41
  go_wp2
  go_end0
  exact ⟨rfl, rfl⟩

def sumL : List Int → Int
  | [] => 0
  | x :: t => x + sumL t
theorem sumL_append (a b : List Int) : sumL (a ++ b) = sumL a + sumL b := by
  induction a with
  | nil => simp [sumL]
  | cons x t ih => simp only [List.cons_append, sumL, ih]; omega
theorem sumL_bound (l : List Int) (h : ∀ x ∈ l, NumR x) : -(9223372036854775808 * (l.length : Int)) ≤ sumL l ∧ sumL l ≤ 9223372036854775808 * (l.length : Int) := by
  induction l with
  | nil => simp [sumL]
  | cons x t ih =>
    have h1 := h x (by simp)
    have h2 := ih (fun y hy => h y (by simp [hy]))
    unfold NumR at h1
    simp only [sumL, List.length_cons]
    omega
theorem sumL_take (l : List Int) (k : Nat) (h : k < l.length) : sumL (l.take (k + 1)) = sumL (l.take k) + rd l k := by
  rw [List.take_add_one, sumL_append, List.getElem?_eq_getElem h]
  simp [sumL, rd, List.getD, h]

/-- The two words are the sum, around 2^128. -/
def Sum2 (hi lo s : Int) : Prop := 0 ≤ hi ∧ hi < 18446744073709551616 ∧ 0 ≤ lo ∧ lo < 18446744073709551616 ∧ ∃ q : Int, hi * 18446744073709551616 + lo = s + q * 340282366920938463463374607431768211456
theorem Sum2.step {hi lo s n : Int} (h : Sum2 hi lo s) (hn : NumR n) :
    Sum2 ((hi + IntKind.u64.wrap (n / 9223372036854775808) + (lo + IntKind.u64.wrap n + 0) / 18446744073709551616) % 18446744073709551616) ((lo + IntKind.u64.wrap n + 0) % 18446744073709551616) (s + n) := by
  obtain ⟨h1, h2, h3, h4, q, h5⟩ := h
  unfold NumR at hn
  rw [num_u64w, num_u64w]
  refine ⟨by omega, by omega, by omega, by omega, ?_⟩
  rcases Int.lt_or_le n 0 with c | c
  · have e1 : n / 9223372036854775808 = -1 := by omega
    rw [e1]
    by_cases c2 : (lo + n % 18446744073709551616 + 0) < 18446744073709551616
    · by_cases c3 : hi = 0
      · exact ⟨q + 1, by omega⟩
      · exact ⟨q, by omega⟩
    · exact ⟨q, by omega⟩
  · have e1 : n / 9223372036854775808 = 0 := by omega
    rw [e1]
    by_cases c2 : (lo + n % 18446744073709551616 + 0) < 18446744073709551616
    · exact ⟨q, by omega⟩
    · by_cases c3 : hi = 18446744073709551615
      · exact ⟨q - 1, by omega⟩
      · exact ⟨q, by omega⟩
theorem Sum2.fin {hi lo s : Int} (h : Sum2 hi lo s) (hs : -170141183460469231731687303715884105728 ≤ s ∧ s < 170141183460469231731687303715884105728) :
    (hi = IntKind.u64.wrap (wrap64 lo / 9223372036854775808) → NumR s ∧ wrap64 lo = s) ∧ (¬ hi = IntKind.u64.wrap (wrap64 lo / 9223372036854775808) → ¬ NumR s) := by
  obtain ⟨h1, h2, h3, h4, q, h5⟩ := h
  rw [num_u64w]
  unfold wrap64 NumR
  by_cases c : lo < 9223372036854775808
  · have e : (lo + 9223372036854775808) % 18446744073709551616 - 9223372036854775808 = lo := by omega
    rw [e]
    have e2 : lo / 9223372036854775808 = 0 := by omega
    rw [e2]
    constructor
    · intro hh
      have : q = 0 := by omega
      omega
    · intro hh hr
      have : q = 0 ∨ q = 1 := by omega
      omega
  · have e : (lo + 9223372036854775808) % 18446744073709551616 - 9223372036854775808 = lo - 18446744073709551616 := by omega
    rw [e]
    have e2 : (lo - 18446744073709551616) / 9223372036854775808 = -1 := by omega
    rw [e2]
    constructor
    · intro hh
      have : q = 1 := by omega
      omega
    · intro hh hr
      have : q = 0 ∨ q = 1 := by omega
      omega

set_option maxRecDepth 100000 in
set_option maxHeartbeats 400000 in
theorem num_Sum.any (A0 : Option Addr) (c0 : Nat) (l : List Int) (w : World) (hr0 : Kd.C (Kd.int .i64) w A0 l.length l) (hl : l.length * 8 ≤ 140737488351232) (hv : ∀ x ∈ l, NumR x) :
    Calls Try.prog 27 #[.slice A0 l.length c0] w fun e w' => e = .returned (.tuple #[.int .i64 (numOk (sumL l)).1, .int .i64 (numOk (sumL l)).2]) ∧ Below w.heap.size w w' := by
  have HR0 := Aside0.mk hr0
  have HV := Aside0.mk hv
  clear hr0 hv
  go_enter Try.func27, Try.ntmps27
  go_wp2
  go_loopw [12] (fun v12 wr => ∃ (k : Nat) (hi lo : Int), v12 = .int .i64 (k : Int) ∧ k ≤ l.length ∧ wr = W2 w hi lo ∧ Aside0 (Sum2 hi lo (sumL (l.take k))))
    (fun v12 wr => l.length - (intOf v12).toNat)
  case atStart => exact ⟨0, 0, 0, rfl, by omega, rfl, ⟨by omega, by omega, by omega, by omega, 0, by simp [sumL]⟩⟩
  case round =>
    obtain ⟨k, hi, lo, rfl, hk, rfl, HS⟩ := hrel
    by_cases c : k < l.length
    · obtain ⟨ad, e1, hx⟩ := Kd.at_int HR0.out (k : Int) (by omega) (by omega)
      cases e1
      have hx2 := hx
      have hb : Below w.heap.size w (W2 w hi lo) := ((Below.refl _ _).alloc (Nat.le_refl _) _).alloc (by simp) _
      replace hx2 := (hb.cell (World.block_lt_of_cell? w _ hx)).trans hx
      rw [Int.toNat_natCast] at hx2
      have t := num_Sum_take (rd l k) hi lo w HS.out.1 HS.out.2.2.1 HS.out.2.2.2.1
      have hst := HS.out.step (HV.out (rd l k) (by unfold rd; simp [c]))
      rw [← sumL_take l k c] at hst
      generalize ((hi + IntKind.u64.wrap (rd l k / 9223372036854775808) + (lo + IntKind.u64.wrap (rd l k) + 0) / 18446744073709551616) % 18446744073709551616) = hi1 at *
      generalize ((lo + IntKind.u64.wrap (rd l k) + 0) % 18446744073709551616) = lo1 at *
      generalize rd l k = x at *
      have T := Lib.hid t
      have HST := Lib.hid hst
      clear hx hb t hst
      go_wp2_with (go_at_call 41; ((with_reducible refine (T.out).mono ?_); rintro e w' ⟨rfl, rfl⟩))
      go_roundw
      case rel => exact ⟨k + 1, hi1, lo1, by go_num, by omega, rfl, ⟨HST.out⟩⟩
      case measure => simp [intOf]; omega
    · obtain rfl : k = l.length := by omega
      have hfin := HS.out.fin (by have := sumL_bound (l.take l.length) (fun x hx => HV.out x (List.mem_of_mem_take hx)); rw [List.take_length] at *; omega)
      rw [List.take_length] at hfin
      have hb : Below w.heap.size w (W2 w hi lo) := ((Below.refl _ _).alloc (Nat.le_refl _) _).alloc (by simp) _
      have HB := Lib.hid hb
      have h1 : (W2 w hi lo).cell? ⟨w.heap.size, 0, none⟩ = some (.int .u64 hi) := by unfold W2; go_simp
      have h2 : (W2 w hi lo).cell? ⟨w.heap.size + 1, 0, none⟩ = some (.int .u64 lo) := by unfold W2; go_simp
      clear HS HV hb hl c hk
      by_cases d : hi = IntKind.u64.wrap (wrap64 lo / 9223372036854775808)
      · obtain ⟨f1, f2⟩ := hfin.1 d
        have d1 : (hi != IntKind.u64.wrap (wrap64 lo / 9223372036854775808)) = false := by simpa using d
        have F1 := Lib.hid f1
        have F2 := Lib.hid f2
        clear hfin d f1 f2
        go_wp2
        go_ret2
        exact ⟨by rw [numOk_in F1.out, F2.out]; rfl, HB.out⟩
      · have f1 := hfin.2 d
        have d1 : (hi != IntKind.u64.wrap (wrap64 lo / 9223372036854775808)) = true := by simpa using d
        have F1 := Lib.hid f1
        clear hfin d f1
        go_wp2
        go_ret2
        exact ⟨by rw [numOk_out F1.out]; rfl, HB.out⟩

def num_Sum.f (l0 : List Int) : Option (Int × Int) := if l0.length * 8 ≤ 140737488351232 ∧ ∀ x ∈ l0, -9223372036854775808 ≤ x ∧ x ≤ 9223372036854775807 then some (numOk (sumL l0)) else none
theorem num_Sum.calls (A0 : Option Addr) (c0 : Nat) (l0 : List Int) (r1 : Int) (r2 : Int) (w : World) (hr0 : Kd.C (Kd.int .i64) w A0 l0.length l0) (hc0 : l0.length ≤ c0) (h : num_Sum.f l0 = some (r1, r2)) :
    Calls Try.prog 27 #[.slice A0 l0.length c0] w fun e w' => e = .returned (.tuple #[.int .i64 r1, .int .i64 r2]) ∧ Below w.heap.size w w' := by
  unfold num_Sum.f at h
  split at h
  · rename_i hn
    simp only [Option.some.injEq] at h
    have := num_Sum.any A0 c0 l0 w hr0 hn.1 hn.2
    rw [h] at this
    exact this
  · simp at h

/-! ### rescindref01_Add: function 22 -/
def rescindref01_Add.f (a0 : Int) (a1 : Int) : Option (Int × Int) := if a1 > 0 then (if a0 > (wrap64 (9223372036854775807 - a1)) then (some (0, 10)) else (if a1 < 0 then (if a0 < (wrap64 ((-9223372036854775808) - a1)) then (some (0, 10)) else (some (wrap64 (a0 + a1), 0))) else (some (wrap64 (a0 + a1), 0)))) else (if a1 < 0 then (if a0 < (wrap64 ((-9223372036854775808) - a1)) then (some (0, 10)) else (some (wrap64 (a0 + a1), 0))) else (some (wrap64 (a0 + a1), 0)))
set_option maxHeartbeats 8000000 in
set_option maxRecDepth 100000 in
theorem rescindref01_Add.calls (a0 : Int) (a1 : Int) (r1 : Int) (r2 : Int) (w : World) (h : rescindref01_Add.f a0 a1 = some (r1, r2)) :
    Calls Try.prog 22 #[.int .i64 a0, .int .i64 a1] w fun e w' => e = .returned (.tuple #[.int .i64 r1, .int .i64 r2]) ∧ Drawn0 w w' := by
  have H : (if a1 > 0 then (if a0 > (wrap64 (9223372036854775807 - a1)) then (some (0, 10)) else (if a1 < 0 then (if a0 < (wrap64 ((-9223372036854775808) - a1)) then (some (0, 10)) else (some (wrap64 (a0 + a1), 0))) else (some (wrap64 (a0 + a1), 0)))) else (if a1 < 0 then (if a0 < (wrap64 ((-9223372036854775808) - a1)) then (some (0, 10)) else (some (wrap64 (a0 + a1), 0))) else (some (wrap64 (a0 + a1), 0)))) = some (r1, r2) := h
  clear h
  by_cases c3 : a1 > 0
  · rw [if_pos c3] at H
    have c3b0 : decide (0 < a1) = true := decide_eq_true c3
    clear c3
    by_cases c4 : a0 > (wrap64 (9223372036854775807 - a1))
    · rw [if_pos c4] at H
      have c4b0 : decide ((wrap64 (9223372036854775807 - a1)) < a0) = true := decide_eq_true c4
      clear c4
      simp only [Option.some.injEq, Prod.mk.injEq] at H
      obtain ⟨rfl, rfl⟩ := H
      go_enter Try.func22, Try.ntmps22
      go_wp2
      go_ret2
      exact ⟨by first | rfl | (simp; done) | (simp [*]; done), by repeat (first | exact Drawn0.refl _ | apply Drawn0.step)⟩
    · rw [if_neg c4] at H
      have c4b0 : decide ((wrap64 (9223372036854775807 - a1)) < a0) = false := decide_eq_false c4
      clear c4
      by_cases c5 : a1 < 0
      · rw [if_pos c5] at H
        have c5b0 : decide (a1 < 0) = true := decide_eq_true c5
        clear c5
        by_cases c6 : a0 < (wrap64 ((-9223372036854775808) - a1))
        · rw [if_pos c6] at H
          have c6b0 : decide (a0 < (wrap64 ((-9223372036854775808) - a1))) = true := decide_eq_true c6
          clear c6
          simp only [Option.some.injEq, Prod.mk.injEq] at H
          obtain ⟨rfl, rfl⟩ := H
          go_enter Try.func22, Try.ntmps22
          go_wp2
          go_ret2
          exact ⟨by first | rfl | (simp; done) | (simp [*]; done), by repeat (first | exact Drawn0.refl _ | apply Drawn0.step)⟩
        · rw [if_neg c6] at H
          have c6b0 : decide (a0 < (wrap64 ((-9223372036854775808) - a1))) = false := decide_eq_false c6
          clear c6
          simp only [Option.some.injEq, Prod.mk.injEq] at H
          obtain ⟨rfl, rfl⟩ := H
          go_enter Try.func22, Try.ntmps22
          go_wp2
          go_ret2
          exact ⟨by first | rfl | (simp; done) | (simp [*]; done), by repeat (first | exact Drawn0.refl _ | apply Drawn0.step)⟩
      · rw [if_neg c5] at H
        have c5b0 : decide (a1 < 0) = false := decide_eq_false c5
        clear c5
        simp only [Option.some.injEq, Prod.mk.injEq] at H
        obtain ⟨rfl, rfl⟩ := H
        go_enter Try.func22, Try.ntmps22
        go_wp2
        go_ret2
        exact ⟨by first | rfl | (simp; done) | (simp [*]; done), by repeat (first | exact Drawn0.refl _ | apply Drawn0.step)⟩
  · rw [if_neg c3] at H
    have c3b0 : decide (0 < a1) = false := decide_eq_false c3
    clear c3
    by_cases c7 : a1 < 0
    · rw [if_pos c7] at H
      have c7b0 : decide (a1 < 0) = true := decide_eq_true c7
      clear c7
      by_cases c8 : a0 < (wrap64 ((-9223372036854775808) - a1))
      · rw [if_pos c8] at H
        have c8b0 : decide (a0 < (wrap64 ((-9223372036854775808) - a1))) = true := decide_eq_true c8
        clear c8
        simp only [Option.some.injEq, Prod.mk.injEq] at H
        obtain ⟨rfl, rfl⟩ := H
        go_enter Try.func22, Try.ntmps22
        go_wp2
        go_ret2
        exact ⟨by first | rfl | (simp; done) | (simp [*]; done), by repeat (first | exact Drawn0.refl _ | apply Drawn0.step)⟩
      · rw [if_neg c8] at H
        have c8b0 : decide (a0 < (wrap64 ((-9223372036854775808) - a1))) = false := decide_eq_false c8
        clear c8
        simp only [Option.some.injEq, Prod.mk.injEq] at H
        obtain ⟨rfl, rfl⟩ := H
        go_enter Try.func22, Try.ntmps22
        go_wp2
        go_ret2
        exact ⟨by first | rfl | (simp; done) | (simp [*]; done), by repeat (first | exact Drawn0.refl _ | apply Drawn0.step)⟩
    · rw [if_neg c7] at H
      have c7b0 : decide (a1 < 0) = false := decide_eq_false c7
      clear c7
      simp only [Option.some.injEq, Prod.mk.injEq] at H
      obtain ⟨rfl, rfl⟩ := H
      go_enter Try.func22, Try.ntmps22
      go_wp2
      go_ret2
      exact ⟨by first | rfl | (simp; done) | (simp [*]; done), by repeat (first | exact Drawn0.refl _ | apply Drawn0.step)⟩

end Go.Proofs.YtdnlcbkocnionaaRRR.PNumS
