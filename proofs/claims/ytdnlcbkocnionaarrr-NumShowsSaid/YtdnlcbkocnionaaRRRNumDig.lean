/- The digits of numbers, written and read: plain lists. No program here. -/
import Derived.Test.YtdnlcbkocnionaaRRRNumPure
import Derived.Test.YtdnlcbkocnionaaRRRNumShow
namespace Go.Proofs.YtdnlcbkocnionaaRRR.NumP
open Go.RowKit Go.Proofs.YtdnlcbkocnionaaRRR.NumW

def dg (d : Nat) : Nat := d - 48
theorem dg_eq (d : Nat) : dg d = d - 48 := rfl
attribute [irreducible] dg
def step (a d : Nat) : Nat := a * 10 + dg d
theorem step_eq (a d : Nat) : step a d = a * 10 + (d - 48) := by unfold step; rw [dg_eq]
attribute [irreducible] step
def val : Nat → List Nat → Nat
  | a, [] => a
  | a, d :: t => val (step a d) t
def isD (d : Nat) : Prop := 48 ≤ d ∧ d ≤ 57

theorem val_ge (l : List Nat) : ∀ a, a ≤ val a l := by
  induction l with
  | nil => intro a; exact Nat.le_refl _
  | cons d t ih => intro a; have := ih (step a d); simp only [val]; rw [step_eq] at *; omega
theorem val_lt (l : List Nat) : ∀ a n, (∀ d ∈ l, isD d) → a < 10 ^ n → val a l < 10 ^ (n + l.length) := by
  induction l with
  | nil => intro a n _ h; simpa [val] using h
  | cons d t ih =>
    intro a n hd h
    have h1 := hd d (by simp)
    have := ih (step a d) (n + 1) (fun x hx => hd x (by simp [hx])) (by unfold isD at h1; rw [Nat.pow_succ, step_eq]; omega)
    simp only [val, List.length_cons]
    rw [show n + (t.length + 1) = n + 1 + t.length by omega]
    exact this
theorem val_big (l : List Nat) : ∀ a n, 10 ^ n ≤ a → 10 ^ (n + l.length) ≤ val a l := by
  induction l with
  | nil => intro a n h; simpa [val] using h
  | cons d t ih =>
    intro a n h
    have := ih (step a d) (n + 1) (by rw [Nat.pow_succ, step_eq]; omega)
    simp only [val, List.length_cons]
    rw [show n + (t.length + 1) = n + 1 + t.length by omega]
    exact this
theorem val_snoc (l : List Nat) (c : Nat) : ∀ a, val a (l ++ [c]) = step (val a l) c := by
  induction l with
  | nil => intro a; rfl
  | cons d t ih => intro a; simp only [List.cons_append, val]; exact ih _

/-- The digits of a number as they are to be: all digits, and no leading 0 but the 0 itself. -/
def Good (l : List Nat) : Prop := l ≠ [] ∧ (∀ d ∈ l, isD d) ∧ (l.head? = some 48 → l.length = 1)

theorem good_pos {l : List Nat} (h : Good l) (h2 : 2 ≤ l.length) : 10 ^ (l.length - 1) ≤ val 0 l := by
  obtain ⟨h0, h1, h3⟩ := h
  cases l with
  | nil => exact absurd rfl h0
  | cons d t =>
    have hd := h1 d (by simp)
    have hne : d ≠ 48 := fun e => by subst e; have := h3 rfl; omega
    unfold isD at hd
    simp only [val]
    have := val_big t (step 0 d) 0 (by rw [step_eq]; simp; omega)
    simpa using this

theorem dec_back (f : Nat) : ∀ (l acc : List Nat), Good l → l.length ≤ f → decF f (val 0 l) acc = l ++ acc := by
  induction f with
  | zero => intro l acc h hf; exact absurd (List.eq_nil_of_length_eq_zero (by omega)) h.1
  | succ f ih =>
    intro l acc h hf
    obtain ⟨l', c, rfl⟩ : ∃ l' c, l = l' ++ [c] := ⟨l.dropLast, l.getLast h.1, (List.dropLast_concat_getLast h.1).symm⟩
    have hc := h.2.1 c (by simp)
    unfold isD at hc
    rw [val_snoc]
    have e1 : step (val 0 l') c / 10 = val 0 l' := by rw [step_eq]; omega
    have e2 : 48 + step (val 0 l') c % 10 = c := by rw [step_eq]; omega
    simp only [decF]
    rw [e1, e2]
    by_cases hl : l' = []
    · subst hl; simp [val]
    · have hg : Good l' := by
        refine ⟨hl, fun d hd => h.2.1 d (by simp [hd]), fun e => ?_⟩
        exfalso
        cases l' with
        | nil => exact hl rfl
        | cons x t =>
          have := h.2.2 (by simpa using e)
          simp at this
      have hp : val 0 l' ≠ 0 := by
        cases l' with
        | nil => exact absurd rfl hl
        | cons x t =>
          have hx := hg.2.1 x (by simp)
          have hne : x ≠ 48 := fun e => by
            subst e
            have := h.2.2 rfl
            simp at this
          unfold isD at hx
          have := val_ge t (step 0 x)
          simp only [val]
          rw [step_eq] at *
          omega
      rw [if_neg hp, ih l' (c :: acc) hg (by simp at hf; omega)]
      simp

theorem dec_good (f : Nat) : ∀ (x : Nat) (acc : List Nat), x < 10 ^ f → 1 ≤ f → ∃ l, decF f x acc = l ++ acc ∧ l.length ≤ f ∧ Good l ∧ val 0 l = x := by
  induction f with
  | zero => intro x acc _ h; omega
  | succ f ih =>
    intro x acc hx _
    simp only [decF]
    by_cases h : x / 10 = 0
    · rw [if_pos h]
      refine ⟨[48 + x % 10], rfl, by simp, ⟨by simp, fun d hd => ?_, fun _ => rfl⟩, ?_⟩
      · simp at hd; subst hd; unfold isD; omega
      · simp only [val, step_eq]; omega
    · rw [if_neg h]
      have hf1 : 1 ≤ f := by
        rcases Nat.eq_zero_or_pos f with e | e
        · subst e; simp at hx; omega
        · exact e
      obtain ⟨l, h1, h2, h3, h4⟩ := ih (x / 10) ((48 + x % 10) :: acc) (by rw [Nat.pow_succ] at hx; omega) hf1
      refine ⟨l ++ [48 + x % 10], by rw [h1]; simp, by simp; omega, ⟨by simp, fun d hd => ?_, fun e => ?_⟩, ?_⟩
      · simp at hd
        rcases hd with hd | hd
        · exact h3.2.1 d hd
        · subst hd; unfold isD; omega
      · exfalso
        cases l with
        | nil => exact h3.1 rfl
        | cons y t =>
          have hy : y = 48 := by simpa using e
          subst hy
          have h5 := h3.2.2 rfl
          have : t = [] := by simpa using h5
          subst this
          simp only [val, step_eq] at h4
          omega
      · rw [val_snoc, h4, step_eq]; omega

/-- A text's bytes. -/
def bl (s : ByteArray) : List Nat := s.data.toList.map UInt8.toNat
theorem bl_length (s : ByteArray) : (bl s).length = s.size := by simp [bl]
theorem bl_lt (s : ByteArray) : ∀ d ∈ bl s, d < 256 := by
  intro d hd
  simp [bl] at hd
  obtain ⟨x, _, rfl⟩ := hd
  exact x.toNat_lt
theorem bl_inj {s t : ByteArray} (h : bl s = bl t) : s = t := by
  have h2 : s.data.toList = t.data.toList := by
    have : ∀ a b : List UInt8, a.map UInt8.toNat = b.map UInt8.toNat → a = b := by
      intro a
      induction a with
      | nil => intro b hb; cases b with
        | nil => rfl
        | cons => simp at hb
      | cons x t ih => intro b hb; cases b with
        | nil => simp at hb
        | cons y u =>
          simp at hb
          rw [UInt8.toNat_inj.1 hb.1, ih u hb.2]
    exact this _ _ h
  cases s; cases t
  simp at h2
  simpa using h2
theorem bl_nums (l : List Nat) (h : ∀ d ∈ l, d < 256) : bl (strOfNums (l.map fun d : Nat => (d : Int))) = l := by
  unfold bl
  rw [strOfNums_data, List.map_map, List.map_map]
  conv => rhs; rw [← List.map_id l]
  apply List.map_congr_left
  intro d hd
  have := h d hd
  simp
  omega

end Go.Proofs.YtdnlcbkocnionaaRRR.NumP
