/- Texts of this claim, put together by a program: LgLaw, WSized. -/
import Derived.Test.YtpidiibhgfjemaaB6
import Derived.SizedLaws
import Derived.ChangeSlices
section
namespace Go.Proofs.Ytpidiibhgfjemaa.LgP
open Go.Proofs.Ytpidiibhgfjemaa.PLg Go.Proofs.Ytpidiibhgfjemaa.PLh Go.Proofs.Ytpidiibhgfjemaa.PLz
open Go.RowKit Go.Proofs.YtpidiibhgfjemaaW.PrintWords Go.Proofs.YtpidiibhgfjemaaW.PrintLast Go.Proofs.YtpidiibhgfjemaaW.PrintMore
open Go.Proofs.Ytpidiibhgfjemaa.EvP (U w64)
set_option linter.unusedVariables false
abbrev Nd := S40
theorem lags_pre : ∀ (xs : List Nd) (out : List Int), ∃ rest, lags xs out = out ++ rest
 | [], out => ⟨[], by simp [lags]⟩
 | x :: xs, out => by
  obtain ⟨r, h⟩ := lags_pre xs (out ++ [lagN x out])
  exact ⟨lagN x out :: r, by rw [lags, h]; simp⟩
theorem lags_len : ∀ (xs : List Nd) (out : List Int), (lags xs out).length = out.length + xs.length
 | [], out => by simp [lags]
 | x :: xs, out => by
  rw [lags, lags_len xs]
  simp; omega
theorem lags_at : ∀ (xs : List Nd) (out : List Int) (j : Nat) (h : j < xs.length), (lags xs out)[out.length + j]? = some (lagN xs[j] ((lags xs out).take (out.length + j)))
 | [], _, j, h => absurd h (Nat.not_lt_zero j)
 | x :: xs, out, 0, h => by
  obtain ⟨r, e⟩ := lags_pre xs (out ++ [lagN x out])
  rw [lags, e]
  simp
 | x :: xs, out, j + 1, h => by
  have := lags_at xs (out ++ [lagN x out]) j (by simpa using h)
  rw [List.length_append, List.length_singleton, Nat.add_assoc, Nat.add_comm 1 j] at this
  rw [lags]
  exact this
theorem grt_congr (a b : List Int) : ∀ (rs : List Int) (m : Int), (∀ r ∈ rs, atL a r = atL b r) → grt a rs m = grt b rs m
 | [], _, _ => rfl
 | r :: rs, m, h => by
  unfold grt
  rw [h r List.mem_cons_self, grt_congr a b rs _ (fun q hq => h q (List.mem_cons_of_mem _ hq))]
theorem grt_le (a : List Int) (B : Int) : ∀ (rs : List Int) (m : Int), m ≤ B → (∀ r ∈ rs, atL a r ≤ B) → grt a rs m ≤ B
 | [], _, h, _ => h
 | r :: rs, m, h, hr => by
  unfold grt
  refine grt_le a B rs _ ?_ (fun q hq => hr q (List.mem_cons_of_mem _ hq))
  have := hr r List.mem_cons_self
  split <;> omega
theorem grt_ge (a : List Int) : ∀ (rs : List Int) (m : Int), m ≤ grt a rs m
 | [], _ => Int.le_refl _
 | r :: rs, m => by
  unfold grt
  have := grt_ge a rs (if m < atL a r then atL a r else m)
  split at this <;> split <;> first | omega | (exfalso; omega)
theorem kind_of (x : Nd) (k : Int) (h : formAt x k = 0) : (1 ≤ x.f0 ∧ x.f0 ≤ 9) ∧ (x.f7.f0 = 2 → x.f0 = 8 ∨ x.f0 = 9) := by
 unfold formAt formN at h
 split at h
 ·cases h
 rename_i h1
 split at h
 ·cases h
 split at h
 ·cases h
 rename_i hok
 refine ⟨by omega, fun h2 => ?_⟩
 have hok' : PLh.okB x.f0 x.f1 x.f2 x.f3 x.f4 x.f5 x.f6 x.f7.f0 x.f7.f1 x.f7.f2 x.f8 x.f9 = true := by simpa using hok
 have hw : (!x.f7.f0 == 0 || (!x.f7.f1 == 0 || !x.f7.f2 == 0)) = true := by rw [h2]; rfl
 have hk : x.f0 = 1 ∨ x.f0 = 2 ∨ x.f0 = 3 ∨ x.f0 = 4 ∨ x.f0 = 5 ∨ x.f0 = 6 ∨ x.f0 = 7 ∨ x.f0 = 8 ∨ x.f0 = 9 := by omega
 rcases hk with e | e | e | e | e | e | e | e | e
 ·rw [e, ok_1, hw] at hok'; simp at hok'
 ·rw [e, ok_2, hw] at hok'; simp at hok'
 ·rw [e, ok_3, hw] at hok'; simp at hok'
 ·rw [e, ok_4, hw] at hok'; simp at hok'
 ·rw [e, ok_5, hw] at hok'; simp at hok'
 ·rw [e, ok_6, hw] at hok'; simp at hok'
 ·rw [e, ok_7, hw] at hok'; simp at hok'
 ·exact .inl e
 ·exact .inr e
theorem firstBad_get : ∀ (l : List Nd) (k : Nat), firstBad l k = 0 → ∀ i (h : i < l.length), formAt l[i] ((k + i : Nat) : Int) = 0
 | [], _, _, i, h => absurd h (Nat.not_lt_zero i)
 | x :: xs, k, hb, i, h => by
  unfold firstBad at hb
  split at hb
  ·rename_i h0
   match i with
   | 0 => exact h0
   | i + 1 =>
    have := firstBad_get xs (k + 1) hb i (by simpa using h)
    rw [show k + (i + 1) = k + 1 + i by omega]
    exact this
  ·exact absurd hb (by assumption)
structure Plan (l : List Nd) : Prop where
 len : l.length ≤ 10
 ok : ∀ i (h : i < l.length), NodeOk l[i] i ∧ (1 ≤ l[i].f0 ∧ l[i].f0 ≤ 9) ∧ (l[i].f7.f0 = 2 → l[i].f0 = 8 ∨ l[i].f0 = 9)
theorem plan_of {l : List Nd} (h : formP l = 0) : Plan l := by
 obtain ⟨h1, h2, h3⟩ := formP_len l h
 refine ⟨h2, fun i hi => ?_⟩
 have := firstBad_get l 0 h3 i hi
 rw [Nat.zero_add] at this
 exact ⟨nodeOk_of _ _ this, kind_of _ _ this⟩
def hops : List Nd → Int
 | [] => 0
 | x :: xs => (if x.f7.f0 = 2 then x.f7.f1 else 0) + hops xs
theorem hops_snoc (x : Nd) : ∀ (l : List Nd), hops (l ++ [x]) = hops l + (if x.f7.f0 = 2 then x.f7.f1 else 0)
 | [] => by simp [hops]
 | y :: l => by
  have := hops_snoc x l
  simp only [List.cons_append, hops]
  omega
def L (l : List Nd) : List Int := lags l []
theorem L_len (l : List Nd) : (L l).length = l.length := by unfold L; rw [lags_len]; simp
theorem L_at (l : List Nd) (hp : Plan l) (i : Nat) (h : i < l.length) : atL (L l) i = if l[i].f7.f0 = 2 then grt (L l) (readsN l[i]) 0 + (l[i].f7.f1 - 1) else grt (L l) (readsN l[i]) 0 := by
 have h1 := lags_at l [] i h
 rw [List.length_nil, Nat.zero_add] at h1
 have hg : grt ((lags l []).take i) (readsN l[i]) 0 = grt (L l) (readsN l[i]) 0 := by
  refine grt_congr _ _ _ _ (fun r hr => ?_)
  have := (hp.ok i h).1.reads r hr
  unfold atL L
  rw [List.getD_eq_getElem?_getD, List.getD_eq_getElem?_getD, List.getElem?_take, if_pos (by omega)]
 unfold lagN at h1
 rw [hg] at h1
 show (L l).getD (Int.toNat (i : Int)) 0 = _
 rw [Int.toNat_natCast, List.getD_eq_getElem?_getD]
 unfold L at h1 ⊢
 rw [h1]
 rfl
theorem hops_mono (l : List Nd) (hp : Plan l) (i : Nat) (h : i < l.length) : hops (l.take (i + 1)) = hops (l.take i) + (if l[i].f7.f0 = 2 then l[i].f7.f1 else 0) := by
 rw [List.take_succ_eq_append_getElem h, hops_snoc]
theorem hops_bd (l : List Nd) (hp : Plan l) : ∀ i, i ≤ l.length → 0 ≤ hops (l.take i) ∧ hops (l.take i) ≤ (i : Int) * 1099511627776
 | 0, _ => by simp [hops]
 | i + 1, h => by
  have h1 := hops_bd l hp i (by omega)
  have h2 := hops_mono l hp i (by omega)
  have h3 := (hp.ok i (by omega)).1.size
  rw [h2]
  split
  ·have := h3 (by assumption); omega
  ·omega
theorem hops_le (l : List Nd) (hp : Plan l) (i : Nat) : ∀ d, i + d ≤ l.length → hops (l.take i) ≤ hops (l.take (i + d))
 | 0, _ => Int.le_refl _
 | d + 1, h => by
  have h1 := hops_le l hp i d (by omega)
  have h2 := hops_mono l hp (i + d) (by omega)
  have h3 := (hp.ok (i + d) (by omega)).1.size
  rw [show i + (d + 1) = i + d + 1 by omega, h2]
  split
  ·have := h3 (by assumption); omega
  ·omega
theorem L_bd (l : List Nd) (hp : Plan l) : ∀ n i, i < n → i < l.length → 0 ≤ atL (L l) i ∧ atL (L l) i ≤ hops (l.take (i + 1))
 | 0, i, h, _ => absurd h (Nat.not_lt_zero i)
 | n + 1, i, h, hi => by
  have hb := hops_bd l hp i (by omega)
  have hr : ∀ r ∈ readsN l[i], atL (L l) r ≤ hops (l.take i) := fun r hr => by
   obtain ⟨r0, r1⟩ := (hp.ok i hi).1.reads r hr
   obtain ⟨q, rfl⟩ : ∃ q : Nat, r = (q : Int) := ⟨r.toNat, by omega⟩
   have h2 := (L_bd l hp n q (by omega) (by omega)).2
   have h3 := hops_le l hp (q + 1) (i - (q + 1)) (by omega)
   rw [show q + 1 + (i - (q + 1)) = i by omega] at h3
   omega
  have h4 := grt_le (L l) _ _ 0 hb.1 hr
  have h5 := grt_ge (L l) (readsN l[i]) 0
  have h6 := (hp.ok i hi).1.size
  rw [L_at l hp i hi, hops_mono l hp i hi]
  split
  ·have := h6 (by assumption); omega
  ·omega
theorem rd_nd (l : List Nd) (i : Nat) (h : i < l.length) : rd_T40 l (i : Int) = l[i] := by
 unfold rd_T40
 rw [Int.toNat_natCast, List.getD_eq_getElem?_getD, List.getElem?_eq_getElem h]
 rfl
set_option maxRecDepth 100000 in
theorem live_T : rescindlaw40_live.f = some true := by kernel_rfl
def outV (l : List Nd) : List Int := if errV l = 0 then L l else []
theorem nodes_f (l : List Nd) : lag_Nodes.f l = some (outV l, errV l) := rfl
theorem errV_plan {l : List Nd} (h : errV l = 0) : Plan l ∧ 1 ≤ l.length := by
 unfold errV at h
 split at h
 ·rename_i h0
  exact ⟨plan_of h0, (formP_len l h0).1⟩
 ·exact absurd h (by assumption)
theorem of_f (l : List Nd) : lag_Of.f l = some (if errV l = 0 then atL (L l) ((l.length : Int) - 1) else 0, errV l) := by
 unfold lag_Of.f
 rw [nodes_f, Option.bind_some]
 by_cases h : errV l = 0
 ·obtain ⟨hp, h1⟩ := errV_plan h
  have h10 := hp.len
  have ho : outV l = L l := by unfold outV; rw [if_pos h]
  rw [if_pos h, if_pos h, ho, h]
  have e : wrap64 (((L l).length : Int) - 1) = (l.length : Int) - 1 := by rw [L_len, w64 (by omega) (by omega)]
  show (if 0 ≤ wrap64 (((L l).length : Int) - 1) then _ else none) = _
  rw [e, if_pos (by omega), L_len, if_pos (by omega)]
  rfl
 ·rw [if_neg h, if_neg h]
theorem bounds_l0 (l : List Nd) (hp : Plan l) (h1 : 1 ≤ l.length) : ∀ (q i : Nat), l.length - i = q → i ≤ l.length →
  U (fun k => rescindlaw40_LagBounds.l0 k l (atL (L l) ((l.length : Int) - 1)) (hops (l.take i)) (i : Int)) true
 | 0, i, hq, hi => by
  have hi' : i = l.length := by omega
  subst hi'
  refine U.succ ?_
  simp only [rescindlaw40_LagBounds.l0]
  have hb := L_bd l hp l.length (l.length - 1) (by omega) (by omega)
  rw [show ((l.length - 1 : Nat) : Int) = (l.length : Int) - 1 by omega, show l.length - 1 + 1 = l.length by omega] at hb
  refine U.neg (by omega) (U.bind (U.const live_T) (U.pos rfl (U.pos hb.1 (U.const ?_))))
  rw [decide_eq_true hb.2]
 | q + 1, i, hq, hi => by
  have hlt : i < l.length := by omega
  have h10 := hp.len
  have hb := hops_bd l hp i hi
  have hm := hops_mono l hp i hlt
  have hs := (hp.ok i hlt).1.size
  refine U.succ ?_
  simp only [rescindlaw40_LagBounds.l0]
  have hw : wrap64 ((i : Int) + 1) = ((i + 1 : Nat) : Int) := by rw [w64 (by omega) (by omega)]; simp
  rw [hw, rd_nd l i hlt]
  refine U.pos (by omega) (U.pos (by omega) ?_)
  have ih := bounds_l0 l hp h1 q (i + 1) (by omega) (by omega)
  rw [hm] at ih
  by_cases h : l[i].f7.f0 = 2
  ·have := hs h
   rw [if_pos h] at ih
   rw [w64 (x := hops (l.take i) + l[i].f7.f1) (by omega) (by omega)]
   exact U.pos h ih
  ·rw [if_neg h, Int.add_zero] at ih
   exact U.neg h ih
theorem lagBounds_U (l : List Nd) : U (fun k => rescindlaw40_LagBounds.f k l) true := by
 unfold rescindlaw40_LagBounds.f
 refine U.bind (U.const (of_f l)) ?_
 by_cases h : errV l = 0
 ·obtain ⟨hp, h1⟩ := errV_plan h
  have h10 := hp.len
  refine U.pos h ?_
  rw [decide_eq_false (by omega : ¬ (l.length : Int) > 40)]
  refine U.succ ?_
  simp only [rescindlaw40_LagBounds.j0]
  refine U.neg (by simp) ?_
  rw [if_pos h]
  exact bounds_l0 l hp h1 _ 0 rfl (by omega)
 ·refine U.neg h ?_
  refine U.succ ?_
  simp only [rescindlaw40_LagBounds.j0]
  refine U.pos trivial (U.bind (U.const live_T) (U.pos rfl (U.neg h (U.const ?_))))
  rw [if_neg h]
  rfl
theorem lagBounds_walk (A0 : Option Addr) (c0 : Nat) (l : List Nd) (w : World) (hr : Kd.C k40 w A0 l.length l) (hc : l.length ≤ c0) {p : Prop} (hw : p) :
  Calls Try.prog 4 #[.slice A0 l.length c0] w fun e w' => e = .returned (.bool true) ∧ Below w.heap.size w w' := by
 obtain ⟨k, hk⟩ := (lagBounds_U l).get
 exact rescindlaw40_LagBounds.calls k A0 c0 l _ w hr hc hk
end Go.Proofs.Ytpidiibhgfjemaa.LgP
end
section
namespace Go.Proofs.YtpidiibhgfjemaaW.PrintWords
open Go.ChangeShapes Go.WideShapes
end Go.Proofs.YtpidiibhgfjemaaW.PrintWords
end
