/- Answers over trees of words: what the program's stack of answers and what the reference's parts come to. -/
import Derived.Test.YtbjbnlngdkkidaaEvT
import Derived.Test.YtbjbnlngdkkidaaEvNum
import Derived.Test.YtbjbnlngdkkidaaPEvx4
import Derived.Test.YtbjbnlngdkkidaaPEvx7
import Derived.Test.YtbjbnlngdkkidaaPEvx8
namespace Go.Proofs.Ytbjbnlngdkkidaa.EvP
open Go.RowKit Go.Proofs.YtbjbnlngdkkidaaW.PrintWords Go.Proofs.YtbjbnlngdkkidaaW.PrintLast Go.Proofs.YtbjbnlngdkkidaaW.PrintMore
open Go.Proofs.Ytbjbnlngdkkidaa.PEv
set_option linter.unusedSimpArgs false
set_option linter.unusedVariables false
theorem U.all {α : Type} {f : Nat → Option α} {r : α} (h : ∀ k, f k = Option.some r) : U f r := ⟨0, fun k _ => h k⟩
def VOk : Th → Prop
  | .num n => R64 n
  | .txt s => s.size ≤ 64
def numE (r : Int × Int) : Except Int Th := if r.2 = 0 then .ok (.num r.1) else .error r.2
def evL (row : List Vl) (o : O) : Except Int Th := if o.f0 = 1 then .ok (.num o.f1) else if o.f0 = 2 then .ok (.txt o.f2) else if o.f1 < (row.length : Int) then .ok (getTh (rd_T28 row o.f1)) else .error 3
def evU (c : Int) (x : Th) : Except Int Th :=
  if c = 4 then (match x with
    | .num a => numE (okI (0 - a))
    | .txt _ => .error 12)
  else if c = 5 then (match x with
    | .num a => .ok (.num (tv (a == 0)))
    | .txt _ => .error 12)
  else (match x with
    | .txt a => .ok (.num a.size)
    | .num _ => .error 12)
def arith (c a b : Int) : Except Int Th :=
  if c = 7 then numE (okI (a + b)) else if c = 8 then numE (okI (a - b)) else if c = 9 then numE (okI (a * b)) else if c = 10 then numE (quoS a b) else if c = 11 then numE (remS a b)
  else if c = 19 then .ok (.num (if a ≠ 0 ∧ b ≠ 0 then 1 else 0)) else .ok (.num (if a ≠ 0 ∨ b ≠ 0 then 1 else 0))
def evB (c : Int) (x y : Th) : Except Int Th :=
  if c = 12 then (match x, y with
    | .txt s, .txt t => if s.size + t.size ≤ 64 then .ok (.txt (s ++ t)) else .error 6
    | _, _ => .error 12)
  else if 13 ≤ c ∧ c ≤ 18 then (compareS c x y).map .num
  else match x, y with
    | .num n, .num m => arith c n m
    | _, _ => .error 12
def T.ev (row : List Vl) : T → Except Int Th
  | .l o => evL row o
  | .u o t => match t.ev row with
    | .ok x => evU o.f0 x
    | .error e => .error e
  | .b o t s => match t.ev row with
    | .ok x => (match s.ev row with
      | .ok y => evB o.f0 x y
      | .error e => .error e)
    | .error e => .error e
def Good : Except Int Th → Prop
  | .ok v => VOk v
  | .error e => e ≠ 0
theorem good_okI (z : Int) : Good (numE (okI z)) := by
  unfold numE okI
  split
  · rename_i h
    rw [if_pos rfl]
    exact h
  · simp [Good]
theorem r64_tv (b : Bool) : R64 (tv b) := by unfold R64 tv; cases b <;> simp
theorem good_arith (c a b : Int) (ha : R64 a) (hb : R64 b) : Good (arith c a b) := by
  unfold arith
  split
  · exact good_okI _
  split
  · exact good_okI _
  split
  · exact good_okI _
  split
  · unfold quoS
    split
    · simp [numE, Good]
    · exact good_okI _
  split
  · unfold remS
    split
    · simp [numE, Good]
    · rename_i h
      have := tmod_lt a b h
      unfold R64 at ha hb
      simp only [numE, if_pos]
      show R64 (a.tmod b)
      unfold R64
      omega
  split
  · show R64 _
    unfold R64; split <;> omega
  · show R64 _
    unfold R64; split <;> omega
theorem r64_cmpS (c r : Int) : R64 (cmpS c r) := by
  unfold cmpS
  repeat' split
  all_goals exact r64_tv _
theorem good_evU (c : Int) (x : Th) (hx : VOk x) : Good (evU c x) := by
  unfold evU
  split
  · cases x
    · exact good_okI _
    · simp [Good]
  split
  · cases x
    · exact r64_tv _
    · simp [Good]
  · cases x
    · simp [Good]
    · simp only [VOk] at hx
      show R64 _
      unfold R64
      omega
theorem good_evB (c : Int) (x y : Th) (hx : VOk x) (hy : VOk y) : Good (evB c x y) := by
  unfold evB
  split
  · cases x <;> cases y <;> first | (simp [Good]; done) | skip
    rename_i s t
    dsimp only
    split
    · show (s ++ t).size ≤ 64
      rw [ByteArray.size_append]; assumption
    · simp [Good]
  split
  · unfold compareS
    split
    · exact r64_cmpS _ _
    · simp [Except.map, Good]
  · cases x <;> cases y <;> first | (simp [Good]; done) | skip
    exact good_arith _ _ _ hx hy
structure ROk (row : List Vl) : Prop where
  may : rowMay row = true
  r64 : ∀ v ∈ row, R64 v.f1
theorem rowMay_at {row : List Vl} (h : rowMay row = true) : row.length ≤ 8 ∧ ∀ v ∈ row, (thOf v.f0 v.f1 v.f2).isSome = true := by
  unfold rowMay at h
  simp only [Bool.and_eq_true, decide_eq_true_eq, List.all_eq_true] at h
  exact h
theorem rd_mem {row : List Vl} {i : Int} (h0 : 0 ≤ i) (h1 : i < (row.length : Int)) : rd_T28 row i ∈ row := by
  unfold rd_T28
  have : i.toNat < row.length := by omega
  rw [List.getD_eq_getElem?_getD, List.getElem?_eq_getElem this]
  exact List.getElem_mem this
theorem empty_eq {t : ByteArray} (h : t.toList = []) : t = ⟨#[]⟩ := (toList_nil_iff_emptyBytes t).1 h
theorem thOf_cases {k n : Int} {t : ByteArray} (h : (thOf k n t).isSome = true) : (k = 1 ∧ t = ⟨#[]⟩ ∧ thOf k n t = some (.num n)) ∨ (k = 2 ∧ n = 0 ∧ t.size ≤ 64 ∧ thOf k n t = some (.txt t)) := by
  unfold thOf at h ⊢
  split at h
  · rename_i h1
    rw [if_pos h1]
    exact .inl ⟨h1.1, empty_eq h1.2, rfl⟩
  · rename_i h1
    rw [if_neg h1]
    split at h
    · rename_i h2
      rw [if_pos h2]
      exact .inr ⟨h2.1, h2.2.1, h2.2.2, rfl⟩
    · simp at h
theorem getTh_ok {v : Vl} (h : (thOf v.f0 v.f1 v.f2).isSome = true) (hr : R64 v.f1) : VOk (getTh v) ∧ thVal3 (getTh v) = (v.f0, v.f1, v.f2) := by
  rcases thOf_cases h with ⟨h0, h1, _⟩ | ⟨h0, h1, h2, _⟩
  · unfold getTh
    rw [if_pos h0]
    exact ⟨hr, by simp [thVal3, h0, h1]⟩
  · unfold getTh
    rw [if_neg (by omega)]
    exact ⟨h2, by simp [thVal3, h0, h1]⟩
theorem takes_0 {c : Int} (h : takes c = 0) : c = 1 ∨ c = 2 ∨ c = 3 := by
  unfold takes at h
  repeat' split at h
  all_goals first | omega | simp at h
theorem takes_1 {c : Int} (h : takes c = 1) : c = 4 ∨ c = 5 ∨ c = 6 := by
  unfold takes at h
  repeat' split at h
  all_goals first | omega | simp at h
theorem takes_2 {c : Int} (h : takes c = 2) : 7 ≤ c ∧ c ≤ 20 := by
  unfold takes at h
  repeat' split at h
  all_goals first | omega | simp at h
theorem okW_get {o : O} (h : okW o = true) (h3 : o.f0 = 3) : 0 ≤ o.f1 ∧ o.f1 < 8 := by
  unfold okW at h
  rw [if_neg (by omega), if_neg (by omega), if_pos h3] at h
  simp at h
  exact h.1
theorem okW_str {o : O} (h : okW o = true) (h3 : o.f0 = 2) : o.f2.size ≤ 64 := by
  unfold okW at h
  rw [if_neg (by omega), if_pos h3] at h
  simp at h
  exact h.2
theorem good_evL (row : List Vl) (hr : ROk row) (o : O) (hw : okW o = true) (ht : takes o.f0 = 0) (ho : R64 o.f1) : Good (evL row o) := by
  unfold evL
  rcases takes_0 ht with h | h | h
  · rw [if_pos h]; exact ho
  · rw [if_neg (by omega), if_pos h]; exact okW_str hw h
  · rw [if_neg (by omega), if_neg (by omega)]
    have := okW_get hw h
    split
    · have hm := rd_mem this.1 (by assumption)
      exact (getTh_ok ((rowMay_at hr.may).2 _ hm) (hr.r64 _ hm)).1
    · simp [Good]
theorem good_ev (row : List Vl) (hr : ROk row) : ∀ t : T, t.ok → (∀ o ∈ t.fl, R64 o.f1) → Good (t.ev row)
  | .l o, h, ho => good_evL row hr o h.1 h.2 (ho o (by simp [T.fl]))
  | .u o t, h, ho => by
    have := good_ev row hr t h.2.2 (fun o' h' => ho o' (by simp [T.fl, h']))
    unfold T.ev
    cases e : t.ev row with
    | ok x => rw [e] at this; exact good_evU _ _ this
    | error c => rw [e] at this; exact this
  | .b o t s, h, ho => by
    have h1 := good_ev row hr t h.2.2.1 (fun o' h' => ho o' (by simp [T.fl, h']))
    have h2 := good_ev row hr s h.2.2.2 (fun o' h' => ho o' (by simp [T.fl, h']))
    unfold T.ev
    cases e : t.ev row with
    | ok x =>
      rw [e] at h1
      cases e' : s.ev row with
      | ok y => rw [e'] at h2; exact good_evB _ _ _ h1 h2
      | error c => rw [e'] at h2; exact h2
    | error c => rw [e] at h1; exact h1
theorem sureS_num (r : Int × Int) : (sureS r).map Th.num = numE r := by
  unfold sureS numE
  split <;> rfl
theorem two_E (c a b : Int) (ha : R64 a) (hb : R64 b) (hc : 7 ≤ c ∧ c ≤ 20) (h12 : c ≠ 12) (h13 : ¬ (13 ≤ c ∧ c ≤ 18)) : U (fun k => (eval_two.g k c a b).map fun r => r.map Th.num) (arith c a b) := by
  unfold eval_two.g arith
  by_cases h7 : c = 7
  · subst h7
    refine U.all fun k => ?_
    simp only [if_pos, add_eq a b ha hb, Option.map_some, sureS_num]
  by_cases h8 : c = 8
  · subst h8
    refine U.all fun k => ?_
    simp [sub_eq a b ha hb, sureS_num]
  by_cases h9 : c = 9
  · subst h9
    refine U.succ (U.all fun k => ?_)
    simp [mul_eq k a b ha hb, sureS_num]
  by_cases h10 : c = 10
  · subst h10
    refine U.succ (U.all fun k => ?_)
    simp [quo_eq k a b ha hb, sureS_num]
  by_cases h11 : c = 11
  · subst h11
    refine U.succ (U.all fun k => ?_)
    simp [rem_eq k a b ha hb, sureS_num]
  refine U.all fun k => ?_
  rw [if_neg h7, if_neg h8, if_neg h9, if_neg h10, if_neg h11, if_neg h7, if_neg h8, if_neg h9, if_neg h10, if_neg h11]
  by_cases h19 : c = 19
  · rw [if_pos h19, if_pos h19]; rfl
  · rw [if_neg h19, if_neg h19]; rfl
theorem pair_E (c : Int) (x y : Th) (hx : VOk x) (hy : VOk y) (hc : 7 ≤ c ∧ c ≤ 20) : U (fun k => pairS k c x y) (evB c x y) := by
  unfold pairS evB
  by_cases h12 : c = 12
  · rw [if_pos h12]
    refine U.pos h12 (U.const ?_)
    cases x <;> cases y <;> first | rfl | skip
    rename_i s t
    simp only [VOk] at hx hy
    dsimp only
    by_cases h : s.size + t.size ≤ 64
    · rw [if_pos h, if_pos h]
    · rw [if_neg h, if_neg h, if_pos (by omega)]
  rw [if_neg h12]
  refine U.neg h12 ?_
  by_cases h13 : 13 ≤ c ∧ c ≤ 18
  · rw [if_pos h13]
    exact U.pos h13 (U.some _)
  rw [if_neg h13]
  refine U.neg h13 ?_
  cases x <;> cases y <;> first | exact U.some _ | skip
  exact two_E c _ _ hx hy hc h12 h13
def After (row : List Vl) (os : List O) (M : List Th) (r : Except Int (List Th)) : Except Int Th → Prop
  | .error why => r = .error why
  | .ok x => U (fun k => wordsS k row os (x :: M)) r
theorem words_step (row : List Vl) (o : O) (os : List O) (L : List Th) (v : Except Int Th) (M : List Th) (r : Except Int (List Th)) (h : U (fun k => wordS k o row L) (v.map (· :: M)))
    (hr : After row os M r v) : U (fun k => wordsS k row (o :: os) L) r := by
  refine U.bind h ?_
  cases v with
  | error e => rw [show r = .error e from hr]; exact U.some _
  | ok x => exact hr
theorem wordL (row : List Vl) (o : O) (L : List Th) (hw : okW o = true) (ht : takes o.f0 = 0) (hl : L.length < 64) : U (fun k => wordS k o row L) ((evL row o).map (· :: L)) := by
  rcases takes_0 ht with h | h | h
  · have e : evL row o = .ok (.num o.f1) := by unfold evL; rw [if_pos h]
    rw [e]
    exact U.pos h (U.pos hl (U.some _))
  · have e : evL row o = .ok (.txt o.f2) := by unfold evL; rw [if_neg (by omega), if_pos h]
    rw [e]
    exact U.neg (by omega) (U.pos h (U.pos hl (U.some _)))
  · refine U.neg (by omega) (U.neg (by omega) (U.pos h ?_))
    by_cases hn : o.f1 < (row.length : Int)
    · have e : evL row o = .ok (getTh (rd_T28 row o.f1)) := by unfold evL; rw [if_neg (by omega), if_neg (by omega), if_pos hn]
      rw [e]
      exact U.pos hn (U.pos ⟨(okW_get hw h).1, hl⟩ (U.some _))
    · have e : evL row o = .error 3 := by unfold evL; rw [if_neg (by omega), if_neg (by omega), if_neg hn]
      rw [e]
      exact U.neg hn (U.some _)
theorem numE_map (r : Int × Int) (L : List Th) : (sureS r).map (fun m => Th.num m :: L) = (numE r).map (· :: L) := by
  unfold sureS numE
  split <;> rfl
theorem wordU (row : List Vl) (o : O) (x : Th) (L : List Th) (ht : takes o.f0 = 1) (hx : VOk x) : U (fun k => wordS k o row (x :: L)) ((evU o.f0 x).map (· :: L)) := by
  rcases takes_1 ht with h | h | h
  · refine U.neg (by omega) (U.neg (by omega) (U.neg (by omega) (U.pos h ?_)))
    rw [h]
    cases x with
    | num a =>
      refine U.succ (U.all fun k => ?_)
      simp only [neg_eq k a hx, Option.map_some]
      rw [numE_map]
      rfl
    | txt a => exact U.some _
  · refine U.neg (by omega) (U.neg (by omega) (U.neg (by omega) (U.neg (by omega) (U.pos h ?_))))
    rw [h]
    cases x <;> exact U.some _
  · refine U.neg (by omega) (U.neg (by omega) (U.neg (by omega) (U.neg (by omega) (U.neg (by omega) (U.pos h ?_)))))
    rw [h]
    cases x <;> exact U.some _
theorem wordB (row : List Vl) (o : O) (x y : Th) (L : List Th) (ht : takes o.f0 = 2) (hx : VOk x) (hy : VOk y) : U (fun k => wordS k o row (y :: x :: L)) ((evB o.f0 x y).map (· :: L)) := by
  unfold wordS
  have h := takes_2 ht
  refine U.neg (by omega) (U.neg (by omega) (U.neg (by omega) (U.neg (by omega) (U.neg (by omega) (U.neg (by omega) ?_)))))
  exact U.map (pair_E o.f0 x y hx hy h)
theorem words_T (row : List Vl) (hr : ROk row) : ∀ t : T, t.ok → (∀ o ∈ t.fl, R64 o.f1) → ∀ (ys : List O) (L : List Th) (r : Except Int (List Th)), L.length + t.fl.length ≤ 64 →
    After row ys L r (t.ev row) → U (fun k => wordsS k row (t.fl ++ ys) L) r
  | .l o, h, ho, ys, L, r, hl, hv => by
    simp [T.fl] at hl
    exact words_step row o ys L _ L r (wordL row o L h.1 h.2 (by omega)) hv
  | .u o t, h, ho, ys, L, r, hl, hv => by
    have hg := good_ev row hr t h.2.2 (fun o' h' => ho o' (by simp [T.fl, h']))
    simp [T.fl] at hl
    show U (fun k => wordsS k row ((t.fl ++ [o]) ++ ys) L) r
    rw [List.append_assoc]
    refine words_T row hr t h.2.2 (fun o' h' => ho o' (by simp [T.fl, h'])) _ L r (by omega) ?_
    unfold T.ev at hv
    cases e : t.ev row with
    | error c => rw [e] at hv; exact hv
    | ok x =>
      rw [e] at hv hg
      exact words_step row o ys _ _ L r (wordU row o x L h.2.1 hg) hv
  | .b o t s, h, ho, ys, L, r, hl, hv => by
    have hg := good_ev row hr t h.2.2.1 (fun o' h' => ho o' (by simp [T.fl, h']))
    have hg2 := good_ev row hr s h.2.2.2 (fun o' h' => ho o' (by simp [T.fl, h']))
    have hp := t.fl_pos
    simp [T.fl] at hl
    show U (fun k => wordsS k row ((t.fl ++ (s.fl ++ [o])) ++ ys) L) r
    rw [List.append_assoc, List.append_assoc]
    refine words_T row hr t h.2.2.1 (fun o' h' => ho o' (by simp [T.fl, h'])) _ L r (by omega) ?_
    unfold T.ev at hv
    cases e : t.ev row with
    | error c => rw [e] at hv; exact hv
    | ok x =>
      rw [e] at hv hg
      refine words_T row hr s h.2.2.2 (fun o' h' => ho o' (by simp [T.fl, h'])) _ (x :: L) r (by simp; omega) ?_
      cases e' : s.ev row with
      | error c => rw [e'] at hv; exact hv
      | ok y =>
        rw [e'] at hv hg2
        exact words_step row o ys _ _ L r (wordB row o x y L h.2.1 hg hg2) hv
end Go.Proofs.Ytbjbnlngdkkidaa.EvP
