/- NumSums in plain numbers: the sum of numbers is told, or is too great, whatever some of them come to, and in whichever order. No condition. -/
import Derived.Test.YtdnlcbkocnionaaRRRPNumSx3
namespace Go.Proofs.YtdnlcbkocnionaaRRR.Pure
open Go.RowKit Go.Proofs.YtdnlcbkocnionaaRRR.PNumS Go.Proofs.YtdnlcbkocnionaaRRRW.PrintWords Go.Proofs.YtdnlcbkocnionaaRRRW.PrintLast

theorem refAdd_eq (a b : Int) (ha : NumR a) (hb : NumR b) : rescindref01_Add.f a b = some (numOk (a + b)) := by
  unfold NumR at ha hb
  unfold rescindref01_Add.f numOk wrap64
  repeat' split
  all_goals first
    | (exfalso; omega)
    | rfl
    | (congr 2; omega)

theorem sumL_nonneg (l : List Int) (h : ∀ x ∈ l, 0 ≤ x) : 0 ≤ sumL l := by
  induction l with
  | nil => simp [sumL]
  | cons x t ih => have := h x (by simp); have := ih (fun y hy => h y (by simp [hy])); simp only [sumL]; omega
theorem sumL_nonpos (l : List Int) (h : ∀ x ∈ l, x < 0) : sumL l ≤ 0 := by
  induction l with
  | nil => simp [sumL]
  | cons x t ih => have := h x (by simp); have := ih (fun y hy => h y (by simp [hy])); simp only [sumL]; omega
theorem sumL_reverse (l : List Int) : sumL l.reverse = sumL l := by
  induction l with
  | nil => rfl
  | cons x t ih => rw [List.reverse_cons, sumL_append, ih]; simp only [sumL]; omega

theorem greedy (m : Nat) : ∀ (k : Nat) (up down : List Int) (s : Int), up.length + down.length = m → 3 * m + 3 < k → NumR s → (∀ x ∈ up, 0 ≤ x ∧ NumR x) → (∀ x ∈ down, x < 0 ∧ NumR x) →
    rescindref01_Sum.l1 k up down s = some (numOk (s + sumL up + sumL down)) := by
  induction m with
  | zero =>
    intro k up down s hm hk hs hu hd
    obtain ⟨k, rfl⟩ : ∃ m, k = m + 1 + 1 := ⟨k - 2, by omega⟩
    obtain rfl : up = [] := List.eq_nil_of_length_eq_zero (by omega)
    obtain rfl : down = [] := List.eq_nil_of_length_eq_zero (by omega)
    simp [rescindref01_Sum.l1, rescindref01_Sum.j2, sumL, numOk_in hs]
  | succ m ih =>
    intro k up down s hm hk hs hu hd
    obtain ⟨k, rfl⟩ : ∃ m, k = m + 1 + 1 + 1 := ⟨k - 3, by omega⟩
    have takeUp : ∀ x t, up = x :: t → (down = [] ∨ s < 0) → rescindref01_Sum.j3 (k + 1) up down s true = some (numOk (s + sumL up + sumL down)) := by
      intro x t e hc
      subst e
      have hx := hu x (by simp)
      have hn := sumL_nonneg t (fun y hy => (hu y (by simp [hy])).1)
      simp only [rescindref01_Sum.j3]
      rw [if_pos trivial, if_pos (by simp only [List.length_cons]; omega), if_pos (by simp only [List.length_cons]; omega)]
      have e1 : rd (x :: t) 0 = x := rfl
      rw [e1, refAdd_eq s x hs hx.2]
      simp only [Option.bind_some]
      by_cases h : NumR (s + x)
      · rw [numOk_in h]
        rw [if_pos rfl]
        have := ih k t down (s + x) (by simp at hm; omega) (by omega) h (fun y hy => hu y (by simp [hy])) hd
        rw [show List.drop (1 : Int).toNat (x :: t) = t from rfl, this]
        simp only [sumL]
        exact congrArg (fun z => some (numOk z)) (by omega)
      · rw [numOk_out h]
        rw [if_neg (by simp), numOk_out]
        intro h2
        rcases hc with hc | hc
        · subst hc
          simp only [sumL] at h2
          unfold NumR at *
          omega
        · unfold NumR at *
          omega
    have takeDown : ∀ x t, down = x :: t → (up = [] ∨ 0 ≤ s) → rescindref01_Sum.j3 (k + 1) up down s false = some (numOk (s + sumL up + sumL down)) := by
      intro x t e hc
      subst e
      have hx := hd x (by simp)
      have hn := sumL_nonpos t (fun y hy => (hd y (by simp [hy])).1)
      simp only [rescindref01_Sum.j3]
      rw [if_neg (by simp), if_pos (by simp only [List.length_cons]; omega), if_pos (by simp only [List.length_cons]; omega)]
      have e1 : rd (x :: t) 0 = x := rfl
      rw [e1, refAdd_eq s x hs hx.2]
      simp only [Option.bind_some]
      by_cases h : NumR (s + x)
      · rw [numOk_in h]
        rw [if_pos rfl]
        have := ih k up t (s + x) (by simp at hm; omega) (by omega) h hu (fun y hy => hd y (by simp [hy]))
        rw [show List.drop (1 : Int).toNat (x :: t) = t from rfl, this]
        simp only [sumL]
        exact congrArg (fun z => some (numOk z)) (by omega)
      · rw [numOk_out h]
        rw [if_neg (by simp), numOk_out]
        intro h2
        rcases hc with hc | hc
        · subst hc
          simp only [sumL] at h2
          unfold NumR at *
          omega
        · unfold NumR at *
          omega
    have hj2 : rescindref01_Sum.j2 (k + 1 + 1) up down s true = some (numOk (s + sumL up + sumL down)) := by
      simp only [rescindref01_Sum.j2]
      rw [if_pos trivial]
      cases hdn : down with
      | nil =>
        rw [if_pos (by simp)]
        cases hup : up with
        | nil => rw [hup, hdn] at hm; simp at hm
        | cons x t => have := takeUp x t hup (Or.inl hdn); rw [hup, hdn] at this; exact this
      | cons y u =>
        rw [if_neg (by simp only [List.length_cons]; omega)]
        by_cases hs0 : s < 0
        · rw [if_pos hs0]
          cases hup : up with
          | nil =>
            have := takeDown y u hdn (Or.inl hup)
            rw [hup, hdn] at this
            simpa using this
          | cons x t =>
            have := takeUp x t hup (Or.inr hs0)
            rw [hup, hdn] at this
            rw [decide_eq_true (by simp only [List.length_cons]; omega)]
            exact this
        · rw [if_neg hs0]
          have := takeDown y u hdn (Or.inr (by omega))
          rw [hdn] at this
          exact this
    simp only [rescindref01_Sum.l1]
    by_cases h0 : (up.length : Int) > 0
    · rw [if_pos h0]; exact hj2
    · rw [if_neg h0, decide_eq_true (by omega)]; exact hj2

theorem wrap_up (i n : Nat) (h : i < n) (hn : n ≤ 140737488351232) : wrap64 ((i : Int) + 1) = ((i + 1 : Nat) : Int) := by unfold wrap64; omega
theorem wrap_down (i n : Nat) (h : i ≤ n) (hn : n ≤ 140737488351232) : wrap64 ((i : Int) - 1) = (i : Int) - 1 := by unfold wrap64; omega
theorem l0_step (k : Nat) (l up down : List Int) (i : Nat) (r : Option (Int × Int)) (h : i < l.length) (h1 : up.length < 17592186044416) (h2 : down.length < 17592186044416)
    (hr : (if rd l i < 0 then rescindref01_Sum.l0 k l up (down ++ [rd l i]) (wrap64 ((i : Int) + 1)) else rescindref01_Sum.l0 k l (up ++ [rd l i]) down (wrap64 ((i : Int) + 1))) = r) :
    rescindref01_Sum.l0 (k + 1) l up down (i : Int) = r := by
  simp only [rescindref01_Sum.l0]
  have a1 : (i : Int) < (l.length : Int) := by omega
  have a2 : (0 : Int) ≤ (i : Int) := by omega
  simp only [a1, a2, h1, h2, if_true]
  exact hr

theorem part (l : List Int) (hl : l.length * 8 ≤ 140737488351232) (hv : ∀ x ∈ l, NumR x) (m : Nat) : ∀ (k i : Nat) (up down : List Int), i + m = l.length → up.length + down.length = i → 4 * l.length + 5 < k + 3 * i → i ≤ l.length → m + 3 * l.length + 5 < k →
    (∀ x ∈ up, 0 ≤ x ∧ NumR x) → (∀ x ∈ down, x < 0 ∧ NumR x) → sumL up + sumL down = sumL (l.take i) →
    rescindref01_Sum.l0 k l up down (i : Int) = some (numOk (sumL l)) := by
  induction m with
  | zero =>
    intro k i up down hi hlen hk2 _ hk hu hd hs
    obtain ⟨k, rfl⟩ : ∃ m, k = m + 1 := ⟨k - 1, by omega⟩
    simp only [rescindref01_Sum.l0]
    rw [if_neg (by omega), greedy l.length k up down 0 (by omega) (by omega) (by unfold NumR; omega) hu hd]
    rw [List.take_of_length_le (by omega)] at hs
    exact congrArg (fun z => some (numOk z)) (by omega)
  | succ m ih =>
    intro k i up down hi hlen hk2 _ hk hu hd hs
    obtain ⟨k, rfl⟩ : ∃ m, k = m + 1 := ⟨k - 1, by omega⟩
    have hin : i < l.length := by omega
    have hr : rd l (i : Int) ∈ l := by unfold rd; simp [hin]
    have ht := sumL_take l i hin
    have hul : up.length < 17592186044416 := by omega
    have hdl : down.length < 17592186044416 := by omega
    refine l0_step k l up down i _ hin hul hdl ?_
    clear hul hdl
    rw [wrap_up i l.length hin (by omega)]
    by_cases hneg : rd l (i : Int) < 0
    · rw [if_pos hneg]
      refine ih k (i + 1) up (down ++ [rd l i]) (by omega) (by rw [List.length_append, List.length_singleton]; omega) (by omega) (by omega) (by omega) hu (fun x hx => ?_) ?_
      · simp at hx
        rcases hx with hx | rfl
        · exact hd x hx
        · exact ⟨hneg, hv _ hr⟩
      · rw [sumL_append, ht]; simp only [sumL]; omega
    · rw [if_neg hneg]
      refine ih k (i + 1) (up ++ [rd l i]) down (by omega) (by rw [List.length_append, List.length_singleton]; omega) (by omega) (by omega) (by omega) (fun x hx => ?_) hd ?_
      · simp at hx
        rcases hx with hx | rfl
        · exact hu x hx
        · exact ⟨by omega, hv _ hr⟩
      · rw [sumL_append, ht]; simp only [sumL]; omega

theorem turned (l : List Int) (r : Int × Int) (hl : l.length * 8 ≤ 140737488351232) (hs : num_Sum.f l.reverse = some r) (hlive : ∀ k, 5 ≤ k → rescindlaw01_live.f k = some true) (i : Nat) : ∀ (k : Nat) (x7 : List Int), i ≤ l.length → i + 10 < k → x7 = (l.drop i).reverse →
    rescindlaw01_NumSums.l0 k l r.1 r.2 r.1 r.2 x7 ((i : Int) - 1) = some true := by
  induction i with
  | zero =>
    intro k x7 hi hk hx
    obtain ⟨k, rfl⟩ : ∃ m, k = m + 1 := ⟨k - 1, by omega⟩
    simp only [rescindlaw01_NumSums.l0]
    rw [List.drop_zero] at hx
    subst hx
    rw [if_neg (by omega), hs]
    simp only [Option.bind_some]
    rw [hlive k (by omega)]
    simp
  | succ i ih =>
    intro k x7 hi hk hx
    obtain ⟨k, rfl⟩ : ∃ m, k = m + 1 := ⟨k - 1, by omega⟩
    simp only [rescindlaw01_NumSums.l0]
    rw [show (((i + 1 : Nat) : Int) - 1) = (i : Int) by omega]
    have hx7 : x7.length < 17592186044416 := by subst hx; simp; omega
    rw [if_pos (by omega), if_pos (by omega), if_pos (by omega), if_pos hx7]
    rw [wrap_down i l.length (by omega) (by omega)]
    refine ih k _ (by omega) (by omega) ?_
    subst hx
    rw [List.drop_eq_getElem_cons (show i < l.length by omega), List.reverse_cons]
    congr 1
    unfold rd
    simp [List.getElem?_eq_getElem (show i < l.length by omega)]

theorem live_true (k : Nat) (hk : 5 ≤ k) : rescindlaw01_live.f k = some true := by
  have a1 : num_Add.f 2 3 = some (5, 0) := by decide +kernel
  have a2 : num_Mul.f 5 (-4) 5 = some (-20, 0) := by decide +kernel
  have a3 : num_Quo.f 5 1 0 = some (0, 11) := by decide +kernel
  have a4 : num_Show.f (-70) = some ⟨#[45, 55, 48]⟩ := by decide +kernel
  have h5 : rescindlaw01_live.f 5 = some true := by
    unfold rescindlaw01_live.f
    rw [a1, a2, a3, a4]
    simp
  obtain ⟨d, rfl⟩ : ∃ d, k = 5 + d := ⟨k - 5, by omega⟩
  clear hk
  induction d with
  | zero => exact h5
  | succ d ih => exact rescindlaw01_live.mono (5 + d) _ ih

theorem NumSums : rescindlaw01_NumSums.Pure := by
  intro l hm hl hv0
  have hv : ∀ x ∈ l, NumR x := fun x hx => by
    have h := hv0 x hx
    simp only [Lit.wf, Bool.and_eq_true, decide_eq_true_eq] at h
    have h1 : IntKind.min .i64 = -9223372036854775808 := by decide
    have h2 : IntKind.max .i64 = 9223372036854775807 := by decide
    unfold NumR
    omega
  refine ⟨4 * l.length + 20, ?_⟩
  have hs : ∀ t : List Int, t.length = l.length → (∀ x ∈ t, NumR x) → num_Sum.f t = some (numOk (sumL t)) := by
    intro t ht hvt
    unfold num_Sum.f
    rw [if_pos ⟨by omega, hvt⟩]
  unfold rescindlaw01_NumSums.f
  rw [hs l rfl hv]
  simp only [Option.bind_some]
  have hp := part l hl hv l.length (4 * l.length + 20) 0 [] [] (by omega) rfl (by omega) (by omega) (by omega) (by simp) (by simp) (by simp [sumL])
  have hrf : rescindref01_Sum.f (4 * l.length + 20) l = some (numOk (sumL l)) := hp
  rw [hrf]
  simp only [Option.bind_some]
  rw [wrap_down l.length l.length (Nat.le_refl _) (by omega)]
  refine turned l (numOk (sumL l)) hl ?_ live_true l.length _ _ (by omega) (by omega) ?_
  · rw [hs l.reverse (by simp) (fun x hx => hv x (by simpa using hx)), sumL_reverse]
  · simp

end Go.Proofs.YtdnlcbkocnionaaRRR.Pure
