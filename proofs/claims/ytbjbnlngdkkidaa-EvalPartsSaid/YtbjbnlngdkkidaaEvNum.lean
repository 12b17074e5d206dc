/- What the printed functions of package num and of its reference compute, in plain numbers. -/
import Derived.Test.YtbjbnlngdkkidaaPEvx8
import Derived.Laws.BitsAllLaws
import Derived.Lib.Mul64
namespace Go.Proofs.Ytbjbnlngdkkidaa.EvP
open Go.RowKit Go.Proofs.YtbjbnlngdkkidaaW.PrintWords Go.Proofs.YtbjbnlngdkkidaaW.PrintLast Go.Proofs.YtbjbnlngdkkidaaW.PrintMore
open Go.Proofs.Ytbjbnlngdkkidaa.PEv
set_option linter.unusedSimpArgs false
def R64 (x : Int) : Prop := -9223372036854775808 ≤ x ∧ x ≤ 9223372036854775807
theorem R64.of_wf {x : Int} (h : (Lit.int .i64 x).wf = true) : R64 x := by
  simp only [Lit.wf, Bool.and_eq_true, decide_eq_true_eq] at h
  unfold R64
  have h1 : IntKind.min .i64 = -9223372036854775808 := by decide
  have h2 : IntKind.max .i64 = 9223372036854775807 := by decide
  omega
def okI (x : Int) : Int × Int := if -9223372036854775808 ≤ x ∧ x ≤ 9223372036854775807 then (x, 0) else (0, 10)
def quoS (a b : Int) : Int × Int := if b = 0 then (0, 11) else okI (a.tdiv b)
def remS (a b : Int) : Int × Int := if b = 0 then (0, 11) else (a.tmod b, 0)
theorem okI_in {x : Int} (h : R64 x) : okI x = (x, 0) := if_pos h
theorem okI_out {x : Int} (h : ¬ R64 x) : okI x = (0, 10) := if_neg h
theorem nat_tdiv (a b : Int) : (a.tdiv b).natAbs = a.natAbs / b.natAbs := Int.natAbs_tdiv a b
theorem u64w (x : Int) : IntKind.u64.wrap x = x % 18446744073709551616 := rfl
theorem size_eq (a : Int) (h : R64 a) : num_size.f a = some ((a.natAbs : Int), decide (a < 0)) := by
  unfold R64 at h
  unfold num_size.f
  by_cases c : a < 0
  · rw [if_pos c, u64w, u64w, decide_eq_true c]
    congr 2
    omega
  · rw [if_neg c, u64w, decide_eq_false c]
    congr 2
    omega
theorem signed_eq (k : Nat) (x : Int) (b : Bool) (h0 : 0 ≤ x) (h1 : x < 18446744073709551616) :
    num_signed.f (k + 1) x b = some (okI (if b then -x else x)) := by
  unfold num_signed.f
  cases b
  · simp only [Bool.false_eq_true, if_false]
    unfold num_signed.j0
    simp only [Bool.false_eq_true, if_false]
    unfold okI
    split
    · rw [if_pos (by omega)]; unfold wrap64; congr 2; omega
    · rw [if_neg (by omega)]
  · simp only [if_true]
    unfold num_signed.j0
    dsimp only
    unfold okI
    by_cases c : x ≤ 9223372036854775808
    · rw [if_pos (by simpa using c), if_pos (by omega), u64w]; unfold wrap64; congr 2; omega
    · rw [if_neg (by simpa using c), if_pos rfl, if_neg (by omega)]
theorem add_eq (a b : Int) (ha : R64 a) (hb : R64 b) : num_Add.f a b = some (okI (a + b)) := by
  unfold R64 at ha hb
  unfold num_Add.f okI wrap64
  by_cases c : b < 0
  · simp only [decide_eq_true c]
    split
    · rename_i h
      simp at h
      rw [if_neg (by omega)]
    · rename_i h
      simp at h
      rw [if_pos (by omega)]; congr 2; omega
  · simp only [decide_eq_false c]
    split
    · rename_i h
      simp at h
      rw [if_neg (by omega)]
    · rename_i h
      simp at h
      rw [if_pos (by omega)]; congr 2; omega
theorem sub_eq (a b : Int) (ha : R64 a) (hb : R64 b) : num_Sub.f a b = some (okI (a - b)) := by
  unfold R64 at ha hb
  unfold num_Sub.f okI wrap64
  by_cases c : b < 0
  · simp only [decide_eq_true c]
    split
    · rename_i h
      simp at h
      rw [if_neg (by omega)]
    · rename_i h
      simp at h
      rw [if_pos (by omega)]; congr 2; omega
  · simp only [decide_eq_false c]
    split
    · rename_i h
      simp at h
      rw [if_neg (by omega)]
    · rename_i h
      simp at h
      rw [if_pos (by omega)]; congr 2; omega
theorem refAdd_eq (a b : Int) (ha : R64 a) (hb : R64 b) : rescindref01_Add.f a b = some (okI (a + b)) := by
  unfold R64 at ha hb
  unfold rescindref01_Add.f okI wrap64
  repeat' split
  all_goals first
    | (exfalso; omega)
    | rfl
    | (congr 2; omega)
theorem refSub_eq (a b : Int) (ha : R64 a) (hb : R64 b) : rescindref01_Sub.f a b = some (okI (a - b)) := by
  unfold R64 at ha hb
  unfold rescindref01_Sub.f okI wrap64
  repeat' split
  all_goals first
    | (exfalso; omega)
    | rfl
    | (congr 2; omega)
theorem neg_eq (k : Nat) (a : Int) (ha : R64 a) : num_Neg.f (k + 1) a = some (okI (0 - a)) := by
  unfold num_Neg.f
  rw [size_eq a ha]
  simp only [Option.bind_some]
  rw [signed_eq k _ _ (by omega) (by unfold R64 at ha; omega)]
  simp only [Option.bind_some]
  unfold R64 at ha
  by_cases c : a < 0
  · rw [decide_eq_true c]; exact congrArg (fun z => some (okI z)) (by simp; omega)
  · rw [decide_eq_false c]; exact congrArg (fun z => some (okI z)) (by simp; omega)
theorem refNeg_eq (a : Int) (ha : R64 a) : rescindref01_Neg.f a = some (okI (0 - a)) := by
  unfold rescindref01_Neg.f
  rw [refSub_eq 0 a (by unfold R64; omega) ha]
  rfl
theorem and32 (x : Nat) (h : x < 18446744073709551616) : bits .and .u64 (x : Int) 4294967295 = ((x % 4294967296 : Nat) : Int) := by
  have := u64_and_nat x 4294967295 h (by omega)
  rw [show ((4294967295 : Nat) : Int) = 4294967295 from rfl] at this
  rw [this]
  congr 1
  exact Nat.and_two_pow_sub_one_eq_mod x 32
theorem mul64_eq (x y : Nat) (hx : x < 18446744073709551616) (hy : y < 18446744073709551616) :
    bits_Mul64.f x y = some (((x * y / 18446744073709551616 : Nat) : Int), ((x * y % 18446744073709551616 : Nat) : Int)) := by
  obtain ⟨h1, h2, h3, h4⟩ := Lib.mul64_hi x y hx hy
  unfold bits_Mul64.f
  rw [and32 x hx, and32 y hy]
  have hb := Lib.half_mul_le (a := x / 4294967296) (b := y / 4294967296) (by omega) (by omega)
  have hc := Lib.half_mul_le (a := x / 4294967296) (b := y % 4294967296) (by omega) (by omega)
  have hd := Lib.half_mul_le (a := x % 4294967296) (b := y / 4294967296) (by omega) (by omega)
  have wn : ∀ n : Nat, n < 18446744073709551616 → IntKind.u64.wrap (n : Int) = (n : Int) := fun n hn => by rw [u64w]; omega
  have e1 : (x : Int) / 4294967296 = ((x / 4294967296 : Nat) : Int) := rfl
  have e2 : (y : Int) / 4294967296 = ((y / 4294967296 : Nat) : Int) := rfl
  rw [e1, e2]
  simp only [← Int.natCast_mul]
  rw [wn _ (show x / 4294967296 * (y / 4294967296) < 18446744073709551616 by omega)]
  rw [wn _ (show x / 4294967296 * (y % 4294967296) < 18446744073709551616 by omega)]
  rw [wn _ (show x % 4294967296 * (y / 4294967296) < 18446744073709551616 by omega)]
  rw [wn _ h1]
  have e3 : ((x % 4294967296 * (y % 4294967296) : Nat) : Int) / 4294967296 = ((x % 4294967296 * (y % 4294967296) / 4294967296 : Nat) : Int) := rfl
  rw [e3, ← Int.natCast_add, wn _ h2, and32 _ h2, ← Int.natCast_add, wn _ h3]
  generalize hA : x / 4294967296 * (y / 4294967296) = A at *
  generalize hT : x / 4294967296 * (y % 4294967296) + x % 4294967296 * (y % 4294967296) / 4294967296 = T at *
  generalize hU : T % 4294967296 + x % 4294967296 * (y / 4294967296) = U at *
  have e4 : (T : Int) / 4294967296 = ((T / 4294967296 : Nat) : Int) := rfl
  have e5 : (U : Int) / 4294967296 = ((U / 4294967296 : Nat) : Int) := rfl
  rw [e4, e5, ← Int.natCast_add, wn (A + T / 4294967296) (by omega), ← Int.natCast_add]
  have hlt : x * y / 18446744073709551616 < 18446744073709551616 := Nat.div_lt_of_lt_mul (Nat.mul_lt_mul'' hx hy)
  rw [wn _ (by omega), h4]
  rfl
theorem abs_mul (a b : Int) : ((a.natAbs * b.natAbs : Nat) : Int) = if (decide (a < 0) != decide (b < 0)) = true then -(a * b) else a * b := by
  rw [← Int.natAbs_mul]
  by_cases ca : a < 0 <;> by_cases cb : b < 0
  · have : 0 ≤ a * b := Int.mul_nonneg_of_nonpos_of_nonpos (by omega) (by omega)
    simp [ca, cb]; omega
  · have : a * b ≤ 0 := Int.mul_nonpos_of_nonpos_of_nonneg (by omega) (by omega)
    simp [ca, cb]; omega
  · have : a * b ≤ 0 := Int.mul_nonpos_of_nonneg_of_nonpos (by omega) (by omega)
    simp [ca, cb]; omega
  · have : 0 ≤ a * b := Int.mul_nonneg (by omega) (by omega)
    simp [ca, cb]; omega
theorem tmod_abs (a b : Int) : a.tmod b = if decide (a < 0) = true then -((a.natAbs % b.natAbs : Nat) : Int) else ((a.natAbs % b.natAbs : Nat) : Int) := by
  have hb : a.tmod b = a.tmod (b.natAbs : Int) := by
    rcases Int.natAbs_eq b with h' | h'
    · rw [← h']
    · conv => lhs; rw [h', Int.tmod_neg]
  rw [hb]
  rcases Int.natAbs_eq a with h | h
  · have h1 : ¬ a < 0 := by omega
    simp only [h1, decide_false, Bool.false_eq_true, if_false]
    conv => lhs; rw [h]
    rfl
  · by_cases ha0 : a.natAbs = 0
    · have : a = 0 := by omega
      subst this
      simp
    have h1 : a < 0 := by omega
    simp only [h1, decide_true, if_true]
    conv => lhs; rw [h, Int.neg_tmod]
    rfl
theorem tmod_lt (a b : Int) (hb : b ≠ 0) : (a.tmod b).natAbs < b.natAbs := by
  have h := tmod_abs a b
  have hlt : a.natAbs % b.natAbs < b.natAbs := Nat.mod_lt _ (by omega)
  generalize a.natAbs % b.natAbs = q at *
  split at h <;> omega
theorem mul_eq (k : Nat) (a b : Int) (ha : R64 a) (hb : R64 b) : num_Mul.f (k + 1) a b = some (okI (a * b)) := by
  have ha' := ha; have hb' := hb
  unfold R64 at ha' hb'
  unfold num_Mul.f
  rw [size_eq a ha, size_eq b hb]
  simp only [Option.bind_some]
  rw [mul64_eq _ _ (by omega) (by omega)]
  simp only [Option.bind_some]
  have hm := abs_mul a b
  by_cases c : (decide (a < 0) != decide (b < 0)) = true
  · rw [if_pos c] at hm
    rw [signed_eq k _ _ (by omega) (by omega), c]
    generalize a * b = p at *
    generalize a.natAbs * b.natAbs = n at *
    split
    · rename_i h0
      simp only [Option.bind_some, if_true]
      exact congrArg (fun z => some (okI z)) (by omega)
    · rename_i h0
      rw [okI_out (by unfold R64; omega)]
  · rw [if_neg c] at hm
    rw [signed_eq k _ _ (by omega) (by omega)]
    simp only [Bool.not_eq_true] at c
    rw [c]
    generalize a * b = p at *
    generalize a.natAbs * b.natAbs = n at *
    split
    · rename_i h0
      simp only [Option.bind_some, Bool.false_eq_true, if_false]
      exact congrArg (fun z => some (okI z)) (by omega)
    · rename_i h0
      rw [okI_out (by unfold R64; omega)]
theorem refMul_eq (k : Nat) (a b : Int) (ha : R64 a) (hb : R64 b) : rescindref01_Mul.f (k + 2) a b = some (okI (a * b)) := by
  have ha' := ha; have hb' := hb
  unfold R64 at ha' hb'
  unfold rescindref01_Mul.f
  by_cases a0 : a = 0
  · subst a0; simp [rescindref01_Mul.j0, okI]
  rw [if_neg a0]
  by_cases b0 : b = 0
  · subst b0; simp [rescindref01_Mul.j0, okI]
  have b0' : (b == 0) = false := beq_eq_false_iff_ne.2 b0
  rw [b0']
  unfold rescindref01_Mul.j0
  simp only [Bool.false_eq_true, if_false]
  have key : rescindref01_Mul.j1 (k + 1) a b false = if wrap64 ((wrap64 (a * b)).tdiv b) = a then some (wrap64 (a * b), 0) else some (0, 10) := by
    unfold rescindref01_Mul.j1
    simp only [Bool.false_eq_true, if_false, b0]
  have keyT : rescindref01_Mul.j1 (k + 1) a b true = some (0, 10) := by
    unfold rescindref01_Mul.j1
    simp only [if_true]
  have main : ¬ (a = -1 ∧ b = -9223372036854775808) → ¬ (b = -1 ∧ a = -9223372036854775808) → rescindref01_Mul.j1 (k + 1) a b false = some (okI (a * b)) := by
    intro n1 n2
    rw [key]
    by_cases c : R64 (a * b)
    · have hw : wrap64 (a * b) = a * b := by unfold R64 at c; unfold wrap64; omega
      rw [hw, Int.mul_tdiv_cancel _ b0, if_pos (by unfold wrap64; omega), okI_in c]
    · rw [okI_out c, if_neg]
      intro h
      generalize hp : wrap64 (a * b) = p at h
      have hpr : R64 p := by rw [← hp]; unfold R64 wrap64; omega
      unfold R64 at hpr
      have hd : (p.tdiv b).natAbs ≤ p.natAbs := by rw [nat_tdiv]; exact Nat.div_le_self _ _
      have hq : p.tdiv b = a ∨ (p = -9223372036854775808 ∧ b = -1) := by
        by_cases hpm : p = -9223372036854775808
        · by_cases hb1 : b = -1
          · exact Or.inr ⟨hpm, hb1⟩
          · left
            have : (p.tdiv b).natAbs ≤ 9223372036854775807 := by
              rw [nat_tdiv]
              by_cases hb2 : b = 1
              · subst hb2 hpm
                exfalso
                simp only [Int.tdiv_one, Int.mul_one] at h hp c
                unfold wrap64 at h
                apply c
                unfold R64
                omega
              · have : 2 ≤ b.natAbs := by omega
                have h3 : p.natAbs / b.natAbs ≤ p.natAbs / 2 := Nat.div_le_div_left this (by omega)
                generalize p.natAbs / b.natAbs = q at *
                omega
            unfold wrap64 at h
            omega
        · left
          unfold wrap64 at h
          omega
      rcases hq with hq | ⟨hp1, hb1⟩
      ·
        have hr := Int.tdiv_mul_add_tmod p b
        rw [hq] at hr
        apply c
        have hz : ¬ (a * b).natAbs > p.natAbs := by
          intro hgt
          rw [Int.natAbs_mul] at hgt
          have : a.natAbs * b.natAbs ≤ p.natAbs := by
            rw [← hq, nat_tdiv]
            exact Nat.div_mul_le_self _ _
          omega
        have : R64 (a * b) ∨ (a * b = 9223372036854775808) := by unfold R64; omega
        rcases this with h1 | h1
        · exact h1
        · exfalso
          rw [h1] at hp
          have hp' : p = -9223372036854775808 := by rw [← hp]; unfold wrap64; omega
          rw [hp'] at hr
          rw [h1] at hr
          have hs : 0 ≤ -(Int.tmod (-9223372036854775808) b) := by
            have := Int.tmod_nonneg b (show (0:Int) ≤ 9223372036854775808 by omega)
            rw [show (-9223372036854775808 : Int) = -(9223372036854775808) from rfl, Int.neg_tmod]
            omega
          have hlt : -(Int.tmod (-9223372036854775808) b) < b.natAbs := by
            have := tmod_lt (-9223372036854775808) b b0
            omega
          omega
      · subst hb1
        have : a = -9223372036854775808 := by
          rw [hp1] at h
          have e : Int.tdiv (-9223372036854775808) (-1) = 9223372036854775808 := by decide
          rw [e] at h
          rw [← h]
          unfold wrap64; omega
        exact n2 ⟨rfl, this⟩
  by_cases c1 : a = -1
  · rw [if_pos c1]
    by_cases c2 : b = -9223372036854775808
    · rw [if_pos c2, keyT, c1, c2]
      rfl
    · rw [if_neg c2]
      have e : (a == -9223372036854775808) = false := by subst c1; rfl
      rw [e, main (fun h => c2 h.2) (by omega)]
      simp
  · rw [if_neg c1]
    by_cases c2 : b = -1
    · rw [if_pos c2]
      by_cases c3 : a = -9223372036854775808
      · rw [show (a == -9223372036854775808) = true from beq_iff_eq.2 c3, keyT, c2, c3]
        rfl
      · rw [beq_eq_false_iff_ne.2 c3]
        exact main (fun h => c1 h.1) (fun h => c3 h.2)
    · rw [if_neg c2]
      exact main (fun h => c1 h.1) (fun h => c2 h.1)
theorem quo_eq (k : Nat) (a b : Int) (ha : R64 a) (hb : R64 b) : num_Quo.f (k + 1) a b = some (quoS a b) := by
  have ha' := ha; have hb' := hb
  unfold R64 at ha' hb'
  unfold num_Quo.f quoS
  by_cases b0 : b = 0
  · rw [if_pos b0, if_pos b0]
  rw [if_neg b0, if_neg b0, size_eq a ha, size_eq b hb]
  simp only [Option.bind_some]
  rw [if_neg (by omega)]
  have e : IntKind.u64.wrap (Int.tdiv (a.natAbs : Int) (b.natAbs : Int)) = ((a.natAbs / b.natAbs : Nat) : Int) := by
    have : Int.tdiv (a.natAbs : Int) (b.natAbs : Int) = ((a.natAbs / b.natAbs : Nat) : Int) := rfl
    rw [this, u64w]
    have : a.natAbs / b.natAbs ≤ a.natAbs := Nat.div_le_self _ _
    generalize a.natAbs / b.natAbs = q at *
    omega
  rw [e]
  have hle : a.natAbs / b.natAbs ≤ a.natAbs := Nat.div_le_self _ _
  rw [signed_eq k _ _ (by generalize a.natAbs / b.natAbs = q at *; omega) (by generalize a.natAbs / b.natAbs = q at *; omega)]
  simp only [Option.bind_some]
  have hs : a.tdiv b = if (decide (a < 0) != decide (b < 0)) = true then -((a.natAbs / b.natAbs : Nat) : Int) else ((a.natAbs / b.natAbs : Nat) : Int) := by
    rcases Int.natAbs_eq a with h | h <;> rcases Int.natAbs_eq b with h' | h'
    · have h1 : ¬ a < 0 := by omega
      have h2 : ¬ b < 0 := by omega
      simp only [h1, h2, decide_false, bne_self_eq_false, Bool.false_eq_true, if_false]
      conv => lhs; rw [h, h']
      rfl
    · by_cases hb0 : b.natAbs = 0
      · omega
      have h2 : b < 0 := by omega
      have h1 : ¬ a < 0 := by omega
      simp only [h1, h2, decide_false, decide_true]
      conv => lhs; rw [h, h', Int.tdiv_neg]
      rfl
    · have h2 : ¬ b < 0 := by omega
      by_cases ha0 : a.natAbs = 0
      · have : a = 0 := by omega
        subst this
        simp
      have h1 : a < 0 := by omega
      simp only [h1, h2, decide_false, decide_true]
      conv => lhs; rw [h, h', Int.neg_tdiv]
      rfl
    · by_cases ha0 : a.natAbs = 0
      · have : a = 0 := by omega
        subst this
        simp
      have h1 : a < 0 := by omega
      have h2 : b < 0 := by omega
      simp only [h1, h2, decide_true, bne_self_eq_false, Bool.false_eq_true, if_false]
      conv => lhs; rw [h, h', Int.neg_tdiv_neg]
      rfl
  rw [hs]
theorem refQuo_eq (a b : Int) (ha : R64 a) (hb : R64 b) : rescindref01_Quo.f a b = some (quoS a b) := by
  unfold rescindref01_Quo.f quoS
  by_cases b0 : b = 0
  · rw [if_pos b0, if_pos b0]
  rw [if_neg b0, if_neg b0]
  have hd : (a.tdiv b).natAbs ≤ a.natAbs := by rw [nat_tdiv]; exact Nat.div_le_self _ _
  by_cases c : a = -9223372036854775808 ∧ b = -1
  · rw [if_pos c.1, if_pos c.2, c.1, c.2]; rfl
  · have hr : R64 (a.tdiv b) := by
      unfold R64 at *
      by_cases ha1 : a = -9223372036854775808
      · by_cases hb1 : b = 1
        · subst hb1; simp only [Int.tdiv_one]; omega
        · have : 2 ≤ b.natAbs := by omega
          have h3 : a.natAbs / b.natAbs ≤ a.natAbs / 2 := Nat.div_le_div_left this (by omega)
          rw [← nat_tdiv] at h3
          omega
      · omega
    rw [okI_in hr]
    have hw : wrap64 (a.tdiv b) = a.tdiv b := by unfold R64 at hr; unfold wrap64; omega
    rw [hw]
    by_cases h1 : a = -9223372036854775808
    · rw [if_pos h1]
      by_cases h2 : b = -1
      · exact absurd ⟨h1, h2⟩ c
      · rw [if_neg h2]
    · rw [if_neg h1]
theorem rem_eq (k : Nat) (a b : Int) (ha : R64 a) (hb : R64 b) : num_Rem.f (k + 1) a b = some (remS a b) := by
  have ha' := ha; have hb' := hb
  unfold R64 at ha' hb'
  unfold num_Rem.f remS
  by_cases b0 : b = 0
  · rw [if_pos b0, if_pos b0]
  rw [if_neg b0, if_neg b0, size_eq a ha, size_eq b hb]
  simp only [Option.bind_some]
  rw [if_neg (by omega)]
  have e : Int.tmod (a.natAbs : Int) (b.natAbs : Int) = ((a.natAbs % b.natAbs : Nat) : Int) := rfl
  rw [e]
  have hlt : a.natAbs % b.natAbs < b.natAbs := Nat.mod_lt _ (by omega)
  have hle : a.natAbs % b.natAbs ≤ a.natAbs := Nat.mod_le _ _
  rw [signed_eq k _ _ (by omega) (by omega), ← tmod_abs]
  simp only [Option.bind_some]
  rw [okI_in]
  rw [tmod_abs]
  unfold R64
  split <;> omega
theorem refRem_eq (a b : Int) : rescindref01_Rem.f a b = some (remS a b) := by
  unfold rescindref01_Rem.f remS
  by_cases b0 : b = 0
  · rw [if_pos b0, if_pos b0]
  rw [if_neg b0, if_neg b0]
  by_cases c : b = -1
  · rw [if_pos c, c]
    have : a.tmod (-1) = 0 := by rw [show (-1 : Int) = -(1) from rfl, Int.tmod_neg, Int.tmod_one]
    rw [this]
  · rw [if_neg c]
end Go.Proofs.Ytbjbnlngdkkidaa.EvP
