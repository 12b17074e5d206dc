/- Texts of this claim, put together by a program: PLzx2, PLzx, LgLaw, WSized. -/
import Derived.Test.YtpidiibhgfjemaaM12
import Derived.SizedLaws
import Derived.ChangeSlices
section
namespace Go.Proofs.Ytpidiibhgfjemaa.PLz
open Go.Proofs.Ytpidiibhgfjemaa.PLg Go.Proofs.Ytpidiibhgfjemaa.PLh Go.Proofs.Ytpidiibhgfjemaa.PLo Go.Proofs.Ytpidiibhgfjemaa.PLi Go.Proofs.Ytpidiibhgfjemaa.PLn Go.Proofs.Ytpidiibhgfjemaa.PLj
open Go.RowKit Go.Proofs.YtpidiibhgfjemaaW.PrintWords Go.Proofs.YtpidiibhgfjemaaW.PrintLast Go.Proofs.YtpidiibhgfjemaaW.PrintMore
attribute [local go_sem] max2_int min2_int max_two min_two max_three min_three max_four min_four
set_option linter.unusedVariables false
set_option linter.unusedSimpArgs false
end Go.Proofs.Ytpidiibhgfjemaa.PLz
end
section
namespace Go.Proofs.Ytpidiibhgfjemaa.PLz
open Go.Proofs.Ytpidiibhgfjemaa.PLg Go.Proofs.Ytpidiibhgfjemaa.PLh Go.Proofs.Ytpidiibhgfjemaa.PLo Go.Proofs.Ytpidiibhgfjemaa.PLi Go.Proofs.Ytpidiibhgfjemaa.PLn Go.Proofs.Ytpidiibhgfjemaa.PLj
open Go.RowKit Go.Proofs.YtpidiibhgfjemaaW.PrintWords Go.Proofs.YtpidiibhgfjemaaW.PrintLast Go.Proofs.YtpidiibhgfjemaaW.PrintMore
attribute [local go_sem] max2_int min2_int max_two min_two max_three min_three max_four min_four
set_option linter.unusedVariables false
set_option linter.unusedSimpArgs false
end Go.Proofs.Ytpidiibhgfjemaa.PLz
end
section
namespace Go.Proofs.Ytpidiibhgfjemaa.LgP
open Go.Proofs.Ytpidiibhgfjemaa.PLg Go.Proofs.Ytpidiibhgfjemaa.PLh Go.Proofs.Ytpidiibhgfjemaa.PLz
open Go.RowKit Go.Proofs.YtpidiibhgfjemaaW.PrintWords Go.Proofs.YtpidiibhgfjemaaW.PrintLast Go.Proofs.YtpidiibhgfjemaaW.PrintMore
open Go.Proofs.Ytpidiibhgfjemaa.EvP (U w64)
set_option linter.unusedVariables false
abbrev Nd := S40
theorem lags_pre : ∀ (xs : List Nd) (out : List Int), ∃ rest, lags xs out = out ++ rest
 | [], out => ⟨[], by simp [lags]⟩
 | x :: xs, out => by
  obtain ⟨r, h⟩ := lags_pre xs (out ++ [lagN x out])
  exact ⟨lagN x out :: r, by rw [lags, h]; simp⟩
theorem lags_len : ∀ (xs : List Nd) (out : List Int), (lags xs out).length = out.length + xs.length
 | [], out => by simp [lags]
 | x :: xs, out => by
  rw [lags, lags_len xs]
  simp; omega
theorem lags_at : ∀ (xs : List Nd) (out : List Int) (j : Nat) (h : j < xs.length), (lags xs out)[out.length + j]? = some (lagN xs[j] ((lags xs out).take (out.length + j)))
 | [], _, j, h => absurd h (Nat.not_lt_zero j)
 | x :: xs, out, 0, h => by
  obtain ⟨r, e⟩ := lags_pre xs (out ++ [lagN x out])
  rw [lags, e]
  simp
 | x :: xs, out, j + 1, h => by
  have := lags_at xs (out ++ [lagN x out]) j (by simpa using h)
  rw [List.length_append, List.length_singleton, Nat.add_assoc, Nat.add_comm 1 j] at this
  rw [lags]
  exact this
theorem grt_congr (a b : List Int) : ∀ (rs : List Int) (m : Int), (∀ r ∈ rs, atL a r = atL b r) → grt a rs m = grt b rs m
 | [], _, _ => rfl
 | r :: rs, m, h => by
  unfold grt
  rw [h r List.mem_cons_self, grt_congr a b rs _ (fun q hq => h q (List.mem_cons_of_mem _ hq))]
theorem grt_le (a : List Int) (B : Int) : ∀ (rs : List Int) (m : Int), m ≤ B → (∀ r ∈ rs, atL a r ≤ B) → grt a rs m ≤ B
 | [], _, h, _ => h
 | r :: rs, m, h, hr => by
  unfold grt
  refine grt_le a B rs _ ?_ (fun q hq => hr q (List.mem_cons_of_mem _ hq))
  have := hr r List.mem_cons_self
  split <;> omega
theorem grt_ge (a : List Int) : ∀ (rs : List Int) (m : Int), m ≤ grt a rs m
 | [], _ => Int.le_refl _
 | r :: rs, m => by
  unfold grt
  have := grt_ge a rs (if m < atL a r then atL a r else m)
  split at this <;> split <;> first | omega | (exfalso; omega)
theorem kind_of (x : Nd) (k : Int) (h : formAt x k = 0) : (1 ≤ x.f0 ∧ x.f0 ≤ 9) ∧ (x.f7.f0 = 2 → x.f0 = 8 ∨ x.f0 = 9) := by
 unfold formAt formN at h
 split at h
 ·cases h
 rename_i h1
 split at h
 ·cases h
 split at h
 ·cases h
 rename_i hok
 refine ⟨by omega, fun h2 => ?_⟩
 have hok' : PLh.okB x.f0 x.f1 x.f2 x.f3 x.f4 x.f5 x.f6 x.f7.f0 x.f7.f1 x.f7.f2 x.f8 x.f9 = true := by simpa using hok
 have hw : (!x.f7.f0 == 0 || (!x.f7.f1 == 0 || !x.f7.f2 == 0)) = true := by rw [h2]; rfl
 have hk : x.f0 = 1 ∨ x.f0 = 2 ∨ x.f0 = 3 ∨ x.f0 = 4 ∨ x.f0 = 5 ∨ x.f0 = 6 ∨ x.f0 = 7 ∨ x.f0 = 8 ∨ x.f0 = 9 := by omega
 rcases hk with e | e | e | e | e | e | e | e | e
 ·rw [e, ok_1, hw] at hok'; simp at hok'
 ·rw [e, ok_2, hw] at hok'; simp at hok'
 ·rw [e, ok_3, hw] at hok'; simp at hok'
 ·rw [e, ok_4, hw] at hok'; simp at hok'
 ·rw [e, ok_5, hw] at hok'; simp at hok'
 ·rw [e, ok_6, hw] at hok'; simp at hok'
 ·rw [e, ok_7, hw] at hok'; simp at hok'
 ·exact .inl e
 ·exact .inr e
theorem firstBad_get : ∀ (l : List Nd) (k : Nat), firstBad l k = 0 → ∀ i (h : i < l.length), formAt l[i] ((k + i : Nat) : Int) = 0
 | [], _, _, i, h => absurd h (Nat.not_lt_zero i)
 | x :: xs, k, hb, i, h => by
  unfold firstBad at hb
  split at hb
  ·rename_i h0
   match i with
   | 0 => exact h0
   | i + 1 =>
    have := firstBad_get xs (k + 1) hb i (by simpa using h)
    rw [show k + (i + 1) = k + 1 + i by omega]
    exact this
  ·exact absurd hb (by assumption)
structure Plan (l : List Nd) : Prop where
 len : l.length ≤ 10
 ok : ∀ i (h : i < l.length), NodeOk l[i] i ∧ (1 ≤ l[i].f0 ∧ l[i].f0 ≤ 9) ∧ (l[i].f7.f0 = 2 → l[i].f0 = 8 ∨ l[i].f0 = 9)
theorem plan_of {l : List Nd} (h : formP l = 0) : Plan l := by
 obtain ⟨h1, h2, h3⟩ := formP_len l h
 refine ⟨h2, fun i hi => ?_⟩
 have := firstBad_get l 0 h3 i hi
 rw [Nat.zero_add] at this
 exact ⟨nodeOk_of _ _ this, kind_of _ _ this⟩
def hops : List Nd → Int
 | [] => 0
 | x :: xs => (if x.f7.f0 = 2 then x.f7.f1 else 0) + hops xs
theorem hops_snoc (x : Nd) : ∀ (l : List Nd), hops (l ++ [x]) = hops l + (if x.f7.f0 = 2 then x.f7.f1 else 0)
 | [] => by simp [hops]
 | y :: l => by
  have := hops_snoc x l
  simp only [List.cons_append, hops]
  omega
def L (l : List Nd) : List Int := lags l []
theorem L_len (l : List Nd) : (L l).length = l.length := by unfold L; rw [lags_len]; simp
theorem L_at (l : List Nd) (hp : Plan l) (i : Nat) (h : i < l.length) : atL (L l) i = if l[i].f7.f0 = 2 then grt (L l) (readsN l[i]) 0 + (l[i].f7.f1 - 1) else grt (L l) (readsN l[i]) 0 := by
 have h1 := lags_at l [] i h
 rw [List.length_nil, Nat.zero_add] at h1
 have hg : grt ((lags l []).take i) (readsN l[i]) 0 = grt (L l) (readsN l[i]) 0 := by
  refine grt_congr _ _ _ _ (fun r hr => ?_)
  have := (hp.ok i h).1.reads r hr
  unfold atL L
  rw [List.getD_eq_getElem?_getD, List.getD_eq_getElem?_getD, List.getElem?_take, if_pos (by omega)]
 unfold lagN at h1
 rw [hg] at h1
 show (L l).getD (Int.toNat (i : Int)) 0 = _
 rw [Int.toNat_natCast, List.getD_eq_getElem?_getD]
 unfold L at h1 ⊢
 rw [h1]
 rfl
theorem hops_mono (l : List Nd) (hp : Plan l) (i : Nat) (h : i < l.length) : hops (l.take (i + 1)) = hops (l.take i) + (if l[i].f7.f0 = 2 then l[i].f7.f1 else 0) := by
 rw [List.take_succ_eq_append_getElem h, hops_snoc]
theorem hops_bd (l : List Nd) (hp : Plan l) : ∀ i, i ≤ l.length → 0 ≤ hops (l.take i) ∧ hops (l.take i) ≤ (i : Int) * 1099511627776
 | 0, _ => by simp [hops]
 | i + 1, h => by
  have h1 := hops_bd l hp i (by omega)
  have h2 := hops_mono l hp i (by omega)
  have h3 := (hp.ok i (by omega)).1.size
  rw [h2]
  split
  ·have := h3 (by assumption); omega
  ·omega
theorem hops_le (l : List Nd) (hp : Plan l) (i : Nat) : ∀ d, i + d ≤ l.length → hops (l.take i) ≤ hops (l.take (i + d))
 | 0, _ => Int.le_refl _
 | d + 1, h => by
  have h1 := hops_le l hp i d (by omega)
  have h2 := hops_mono l hp (i + d) (by omega)
  have h3 := (hp.ok (i + d) (by omega)).1.size
  rw [show i + (d + 1) = i + d + 1 by omega, h2]
  split
  ·have := h3 (by assumption); omega
  ·omega
theorem L_bd (l : List Nd) (hp : Plan l) : ∀ n i, i < n → i < l.length → 0 ≤ atL (L l) i ∧ atL (L l) i ≤ hops (l.take (i + 1))
 | 0, i, h, _ => absurd h (Nat.not_lt_zero i)
 | n + 1, i, h, hi => by
  have hb := hops_bd l hp i (by omega)
  have hr : ∀ r ∈ readsN l[i], atL (L l) r ≤ hops (l.take i) := fun r hr => by
   obtain ⟨r0, r1⟩ := (hp.ok i hi).1.reads r hr
   obtain ⟨q, rfl⟩ : ∃ q : Nat, r = (q : Int) := ⟨r.toNat, by omega⟩
   have h2 := (L_bd l hp n q (by omega) (by omega)).2
   have h3 := hops_le l hp (q + 1) (i - (q + 1)) (by omega)
   rw [show q + 1 + (i - (q + 1)) = i by omega] at h3
   omega
  have h4 := grt_le (L l) _ _ 0 hb.1 hr
  have h5 := grt_ge (L l) (readsN l[i]) 0
  have h6 := (hp.ok i hi).1.size
  rw [L_at l hp i hi, hops_mono l hp i hi]
  split
  ·have := h6 (by assumption); omega
  ·omega
theorem L_range (l : List Nd) (hp : Plan l) (i : Nat) (hi : i < l.length) : 0 ≤ atL (L l) i ∧ atL (L l) i ≤ 10995116277760 := by
 have h1 := L_bd l hp (i + 1) i (by omega) hi
 have h2 := hops_bd l hp (i + 1) (by omega)
 have := hp.len
 omega
theorem rd_nd (l : List Nd) (i : Nat) (h : i < l.length) : rd_T40 l (i : Int) = l[i] := by
 unfold rd_T40
 rw [Int.toNat_natCast, List.getD_eq_getElem?_getD, List.getElem?_eq_getElem h]
 rfl
theorem node_U (l : List Nd) (hp : Plan l) : ∀ n i, i < n → i < l.length → U (fun k => rescindref40_node.f k l (i : Int)) (atL (L l) i)
 | 0, i, h, _ => absurd h (Nat.not_lt_zero i)
 | n + 1, i, h, hi => by
  have hru : ∀ r ∈ readsN l[i], U (fun k => rescindref40_node.f k l r) (atL (L l) r) ∧ 0 ≤ atL (L l) r ∧ atL (L l) r ≤ 10995116277760 := fun r hr => by
   obtain ⟨r0, r1⟩ := (hp.ok i hi).1.reads r hr
   obtain ⟨q, rfl⟩ : ∃ q : Nat, r = (q : Int) := ⟨r.toNat, by omega⟩
   exact ⟨node_U l hp n q (by omega) (by omega), L_range l hp q (by omega)⟩
  have hL := L_at l hp i hi
  obtain ⟨hk, hh⟩ := (hp.ok i hi).2
  have hs := (hp.ok i hi).1.size
  refine U.succ ?_
  simp only [rescindref40_node.f]
  refine U.pos (by omega) (U.pos (by omega) ?_)
  rw [rd_nd l i hi]
  revert hru hL hk hh hs
  generalize l[i] = X
  intro hru hL hk hh hs
  rw [hL]
  by_cases k1 : X.f0 = 1
  ·refine U.pos k1 (U.const ?_)
   have e : readsN X = [] := by unfold readsN readsT; rw [if_pos k1]
   rw [e, if_neg (fun h2 => by have := hh h2; omega)]
   rfl
  refine U.neg k1 ?_
  have two : (X.f0 = 4 ∨ X.f0 = 5 ∨ X.f0 = 6) → U (fun k => rescindref40_node.j0 k l X.f0 true X.f0 X.f1 X.f2 X.f3 X.f4 X.f5 X.f6 X.f7.f0 X.f7.f1 X.f7.f2 X.f8 X.f9) (if X.f7.f0 = 2 then grt (L l) (readsN X) 0 + (X.f7.f1 - 1) else grt (L l) (readsN X) 0) := fun hk3 => by
   have e : readsN X = [X.f1, X.f2] := by
    unfold readsN readsT
    rw [if_neg k1]
    rcases hk3 with h | h | h <;> rw [h] <;> rfl
   rw [if_neg (fun h2 => by have := hh h2; omega), e]
   rw [e] at hru
   obtain ⟨u1, p1, q1⟩ := hru X.f1 (by simp)
   obtain ⟨u2, p2, q2⟩ := hru X.f2 (by simp)
   refine U.succ ?_
   simp only [rescindref40_node.j0]
   refine U.pos trivial (U.bind u1 (U.bind u2 ?_))
   have hg : grt (L l) [X.f1, X.f2] 0 = if atL (L l) X.f1 < atL (L l) X.f2 then atL (L l) X.f2 else atL (L l) X.f1 := by
    simp only [grt]
    repeat' split
    all_goals first | rfl | omega
   rw [hg]
   by_cases c : atL (L l) X.f1 < atL (L l) X.f2
   ·exact (U.pos c (U.some _)).congr_r (if_pos c).symm
   ·exact (U.neg c (U.some _)).congr_r (if_neg c).symm
  by_cases k4 : X.f0 = 4
  ·refine U.pos k4 ?_
   rw [show (X.f0 == 4) = true from beq_iff_eq.2 k4]
   exact two (.inl k4)
  refine U.neg k4 ?_
  by_cases k5 : X.f0 = 5
  ·refine U.pos k5 ?_
   rw [show (X.f0 == 5) = true from beq_iff_eq.2 k5]
   exact two (.inr (.inl k5))
  refine U.neg k5 ?_
  by_cases k6 : X.f0 = 6
  ·rw [show (X.f0 == 6) = true from beq_iff_eq.2 k6]
   exact two (.inr (.inr k6))
  rw [show (X.f0 == 6) = false from beq_eq_false_iff_ne.2 k6]
  have hf : (fieldsT X.f0).1 = false := by
   have hk2 : X.f0 = 2 ∨ X.f0 = 3 ∨ X.f0 = 7 ∨ X.f0 = 8 ∨ X.f0 = 9 := by omega
   rcases hk2 with h | h | h | h | h <;> rw [h] <;> rfl
  have e : readsN X = [X.f1] := by
   unfold readsN readsT
   rw [if_neg k1, hf]
   rfl
  rw [e] at hru ⊢
  obtain ⟨u1, p1, q1⟩ := hru X.f1 (by simp)
  have hg : grt (L l) [X.f1] 0 = atL (L l) X.f1 := by
   simp only [grt]
   split <;> omega
  rw [hg]
  refine U.succ ?_
  simp only [rescindref40_node.j0]
  refine U.neg (by simp) ?_
  have one : ∀ b : Bool, (X.f7.f0 = 2 → b = true) → U (fun k => rescindref40_node.j1 k l b X.f0 X.f1 X.f2 X.f3 X.f4 X.f5 X.f6 X.f7.f0 X.f7.f1 X.f7.f2 X.f8 X.f9) (if X.f7.f0 = 2 then atL (L l) X.f1 + (X.f7.f1 - 1) else atL (L l) X.f1) := fun b hb => by
   refine U.succ ?_
   simp only [rescindref40_node.j1]
   by_cases c : X.f7.f0 = 2
   ·rw [hb c, if_pos c]
    refine U.pos rfl (U.pos c (U.bind u1 (U.const ?_)))
    have := hs c
    rw [w64 (x := atL (L l) X.f1 + X.f7.f1) (by omega) (by omega), w64 (by omega) (by omega)]
    congr 1
    omega
   ·rw [if_neg c]
    cases b with
    | true => exact U.pos rfl (U.neg c (U.bind u1 (U.some _)))
    | false => exact U.neg (by simp) (U.bind u1 (U.some _))
  by_cases k8 : X.f0 = 8
  ·refine U.pos k8 (one _ (fun _ => beq_iff_eq.2 k8))
  ·refine U.neg k8 (one _ (fun h2 => beq_iff_eq.2 ?_))
   have := hh h2
   omega
set_option maxRecDepth 100000 in
theorem live_T : rescindlaw40_live.f = some true := by kernel_rfl
theorem counting_l0 (l : List Nd) (hl : l.length ≤ 40) : ∀ (q i : Nat), l.length - i = q → i ≤ l.length → U (fun k => rescindref40_Counting.l0 k l (i : Int)) ((l.drop i).any cntN)
 | 0, i, hq, hi => by
  refine U.succ ?_
  simp only [rescindref40_Counting.l0]
  refine U.neg (by omega) (U.const ?_)
  rw [List.drop_eq_nil_of_le (by omega)]
  rfl
 | q + 1, i, hq, hi => by
  have hlt : i < l.length := by omega
  refine U.succ ?_
  simp only [rescindref40_Counting.l0]
  have hw : wrap64 ((i : Int) + 1) = ((i + 1 : Nat) : Int) := by rw [w64 (by omega) (by omega)]; simp
  rw [hw, List.drop_eq_getElem_cons hlt, List.any_cons, rd_nd l i hlt]
  refine U.pos (by omega) (U.pos (by omega) ?_)
  by_cases h : l[i].f7.f0 = 3
  ·refine U.pos h (U.const ?_)
   rw [show cntN l[i] = true from beq_iff_eq.2 h]
   rfl
  ·refine U.neg h ?_
   rw [show cntN l[i] = false from beq_eq_false_iff_ne.2 h, Bool.false_or]
   exact counting_l0 l hl q (i + 1) (by omega) (by omega)
theorem counting_U (l : List Nd) (hl : l.length ≤ 40) : U (fun k => rescindref40_Counting.f k l) (l.any cntN) := by
 unfold rescindref40_Counting.f
 exact counting_l0 l hl l.length 0 rfl (by omega)
def outV (l : List Nd) : List Int := if errV l = 0 then L l else []
theorem nodes_f (l : List Nd) : lag_Nodes.f l = some (outV l, errV l) := rfl
theorem errV_plan {l : List Nd} (h : errV l = 0) : Plan l ∧ 1 ≤ l.length := by
 unfold errV at h
 split at h
 ·rename_i h0
  exact ⟨plan_of h0, (formP_len l h0).1⟩
 ·exact absurd h (by assumption)
theorem of_f (l : List Nd) : lag_Of.f l = some (if errV l = 0 then atL (L l) ((l.length : Int) - 1) else 0, errV l) := by
 unfold lag_Of.f
 rw [nodes_f, Option.bind_some]
 by_cases h : errV l = 0
 ·obtain ⟨hp, h1⟩ := errV_plan h
  have h10 := hp.len
  have ho : outV l = L l := by unfold outV; rw [if_pos h]
  rw [if_pos h, if_pos h, ho, h]
  have e : wrap64 (((L l).length : Int) - 1) = (l.length : Int) - 1 := by rw [L_len, w64 (by omega) (by omega)]
  show (if 0 ≤ wrap64 (((L l).length : Int) - 1) then _ else none) = _
  rw [e, if_pos (by omega), L_len, if_pos (by omega)]
  rfl
 ·rw [if_neg h, if_neg h]
theorem ref_l0 (l : List Nd) (hp : Plan l) : ∀ (q i : Nat), l.length - i = q → i ≤ l.length → U (fun k => rescindref40_Nodes.l0 k l ((L l).take i) (i : Int)) (L l, 0)
 | 0, i, hq, hi => by
  refine U.succ ?_
  simp only [rescindref40_Nodes.l0]
  refine U.neg (by omega) (U.const ?_)
  rw [List.take_of_length_le (by rw [L_len]; omega)]
 | q + 1, i, hq, hi => by
  have hlt : i < l.length := by omega
  have h10 := hp.len
  refine U.succ ?_
  simp only [rescindref40_Nodes.l0]
  have hw : wrap64 ((i : Int) + 1) = ((i + 1 : Nat) : Int) := by rw [w64 (by omega) (by omega)]; simp
  rw [hw]
  refine U.pos (by omega) (U.bind (node_U l hp (i + 1) i (by omega) hlt) ?_)
  refine U.pos (by rw [List.length_take, L_len]; omega) ?_
  have e : (L l).take i ++ [atL (L l) i] = (L l).take (i + 1) := by
   have hl : i < (L l).length := by rw [L_len]; exact hlt
   rw [List.take_succ_eq_append_getElem hl]
   unfold atL
   rw [Int.toNat_natCast, List.getD_eq_getElem?_getD, List.getElem?_eq_getElem hl]
   rfl
  rw [e]
  exact ref_l0 l hp q (i + 1) (by omega) (by omega)
theorem ref_U (l : List Nd) (hl : l.length ≤ 40) : U (fun k => rescindref40_Nodes.f k l) (outV l, errV l) := by
 unfold rescindref40_Nodes.f outV errV
 refine U.bind (U.const (show rescindref36_Form.f l = some (formP l) from rfl)) ?_
 by_cases h : formP l = 0
 ·rw [if_pos h]
  refine U.pos h (U.bind (counting_U l hl) ?_)
  cases hc : l.any cntN with
  | true => exact U.pos rfl (U.some _)
  | false =>
   refine U.neg (by simp) ?_
   exact ref_l0 l (plan_of h) l.length 0 rfl (by omega)
 ·rw [if_neg h, if_neg h]
  exact U.neg h (U.some _)
theorem outV_len {l : List Nd} (hl : l.length ≤ 40) : (outV l).length ≤ 40 := by
 unfold outV
 split
 ·rw [L_len]; exact hl
 ·simp
theorem nodes_l0 (l : List Nd) (hl : l.length ≤ 40) : ∀ (q i : Nat), (outV l).length - i = q → i ≤ (outV l).length →
  U (fun k => rescindlaw40_LagNodes.l0 k (outV l) (errV l) (outV l) (if errV l = 0 then atL (L l) ((l.length : Int) - 1) else 0) (i : Int)) true
 | 0, i, hq, hi => by
  refine U.succ ?_
  simp only [rescindlaw40_LagNodes.l0]
  refine U.neg (by omega) (U.bind (U.const live_T) (U.pos rfl ?_))
  by_cases h : errV l = 0
  ·refine U.pos h ?_
   obtain ⟨hp, h1⟩ := errV_plan h
   have ho : outV l = L l := by unfold outV; rw [if_pos h]
   have e : wrap64 (((L l).length : Int) - 1) = (l.length : Int) - 1 := by rw [L_len, w64 (by omega) (by omega)]
   rw [ho, e, if_pos h]
   refine U.pos (by omega) (U.pos (by rw [L_len]; omega) (U.const ?_))
   rw [show rd (L l) ((l.length : Int) - 1) = atL (L l) ((l.length : Int) - 1) from rfl, beq_self_eq_true]
  ·exact U.neg h (U.some _)
 | q + 1, i, hq, hi => by
  have hlt : i < (outV l).length := by omega
  have := outV_len hl
  refine U.succ ?_
  simp only [rescindlaw40_LagNodes.l0]
  have hw : wrap64 ((i : Int) + 1) = ((i + 1 : Nat) : Int) := by rw [w64 (by omega) (by omega)]; simp
  rw [hw]
  refine U.pos (by omega) (U.pos (by omega) (U.pos (by omega) (U.pos trivial ?_)))
  exact nodes_l0 l hl q (i + 1) (by omega) (by omega)
theorem lagNodes_U (l : List Nd) : U (fun k => rescindlaw40_LagNodes.f k l) true := by
 unfold rescindlaw40_LagNodes.f
 by_cases h : (l.length : Int) > 40
 ·exact U.pos h (U.const (by rw [live_T]; rfl))
 have hl : l.length ≤ 40 := by omega
 refine U.neg h (U.bind (U.const (nodes_f l)) (U.bind (ref_U l hl) (U.bind (U.const (of_f l)) ?_)))
 refine U.pos rfl (U.pos rfl (U.pos rfl ?_))
 refine U.bind (U.const (show lag_Counting.f l = some (l.any cntN) from if_pos (by omega))) (U.bind (counting_U l hl) ?_)
 refine U.succ ?_
 simp only [rescindlaw40_LagNodes.j0]
 refine U.neg (by simp) ?_
 exact nodes_l0 l hl _ 0 rfl (by omega)
theorem lagNodes_walk (A0 : Option Addr) (c0 : Nat) (l : List Nd) (w : World) (hr : Kd.C k40 w A0 l.length l) (hc : l.length ≤ c0) {p : Prop} (hw : p) :
  Calls Try.prog 3 #[.slice A0 l.length c0] w fun e w' => e = .returned (.bool true) ∧ Below w.heap.size w w' := by
 obtain ⟨k, hk⟩ := (lagNodes_U l).get
 exact rescindlaw40_LagNodes.calls k A0 c0 l _ w hr hc hk
end Go.Proofs.Ytpidiibhgfjemaa.LgP
end
section
namespace Go.Proofs.YtpidiibhgfjemaaW.PrintWords
open Go.ChangeShapes Go.WideShapes
end Go.Proofs.YtpidiibhgfjemaaW.PrintWords
end
