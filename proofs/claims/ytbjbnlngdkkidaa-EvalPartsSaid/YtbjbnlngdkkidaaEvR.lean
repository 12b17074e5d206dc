/- The reference's answer over trees of words; both answers are alike. -/
import Derived.Test.YtbjbnlngdkkidaaEvV
import Derived.Test.YtbjbnlngdkkidaaPEvx9
import Derived.Lib.Bytealg
namespace Go.Proofs.Ytbjbnlngdkkidaa.EvP
open Go.RowKit Go.Proofs.YtbjbnlngdkkidaaW.PrintWords Go.Proofs.YtbjbnlngdkkidaaW.PrintLast Go.Proofs.YtbjbnlngdkkidaaW.PrintMore
open Go.Proofs.Ytbjbnlngdkkidaa.PEv
set_option linter.unusedSimpArgs false
set_option linter.unusedVariables false
theorem refMay (k n : Int) (t : ByteArray) : rescindref05_May.f k n t = some (thOf k n t).isSome := by
  unfold rescindref05_May.f
  by_cases h1 : k = 1
  · rw [if_pos h1]
    by_cases ht : t.toList = []
    · have e : thOf k n t = some (.num n) := by unfold thOf; rw [if_pos ⟨h1, ht⟩]
      rw [e, ht]; rfl
    · have e : thOf k n t = none := by unfold thOf; rw [if_neg (by simp [ht]), if_neg (by omega)]
      rw [e]; simp [ht]
  rw [if_neg h1]
  by_cases h2 : k = 2
  · rw [if_pos h2]
    by_cases hn : n = 0
    · rw [if_pos hn]
      by_cases hs : t.size ≤ 64
      · have e : thOf k n t = some (.txt t) := by unfold thOf; rw [if_neg (by simp [h1]), if_pos ⟨h2, hn, hs⟩]
        rw [e]; simp; omega
      · have e : thOf k n t = none := by unfold thOf; rw [if_neg (by simp [h1]), if_neg (by simp [hs])]
        rw [e]; simp; omega
    · have e : thOf k n t = none := by unfold thOf; rw [if_neg (by simp [h1]), if_neg (by simp [hn])]
      rw [if_neg hn, e]; rfl
  · have e : thOf k n t = none := by unfold thOf; rw [if_neg (by simp [h1]), if_neg (by simp [h2])]
    rw [if_neg h2, e]; rfl
theorem bt_get (s : ByteArray) (i : Nat) (h : i < s.data.toList.length) : bt s (i : Int) = ((s.data.toList[i]).toNat : Int) := by
  have hs : i < s.size := by rw [data_length] at h; exact h
  unfold bt
  rw [dif_pos (by simpa using hs)]
  simp only [Int.toNat_natCast]
  rfl
theorem cmp_loop (c d : Int) (s t : ByteArray) (hs : s.size ≤ 64) (ht : t.size ≤ 64) (n : Int) (m : Int) : ∀ (q i : Nat), s.size - i = q → i ≤ s.size → i ≤ t.size →
    U (fun k => rescindref05_Compare.l0 k (i : Int) c n s d m t) (Lib.compareBytes (s.data.toList.drop i) (t.data.toList.drop i)) := by
  intro q
  have fin : ∀ i : Nat, (i = s.size ∨ i = t.size) → i ≤ s.size → i ≤ t.size → ∀ f : Nat → Option Int, U (fun k => if false = true then f k else (if (s.size : Int) = (t.size : Int) then (some 0) else (if (s.size : Int) < (t.size : Int) then (some (-1)) else (some 1)))) (Lib.compareBytes (s.data.toList.drop i) (t.data.toList.drop i)) := by
    intro i h h1 h2 f
    refine U.neg (by simp) ?_
    have l1 := data_length s
    have l2 := data_length t
    by_cases e : s.size = t.size
    · refine U.pos (by omega) ?_
      rw [List.drop_eq_nil_of_le (by omega), List.drop_eq_nil_of_le (by omega)]
      exact U.some _
    refine U.neg (by omega) ?_
    by_cases e' : s.size < t.size
    · refine U.pos (by omega) ?_
      rw [List.drop_eq_nil_of_le (by omega : s.data.toList.length ≤ i), List.drop_eq_getElem_cons (by omega : i < t.data.toList.length)]
      exact U.some _
    · refine U.neg (by omega) ?_
      rw [List.drop_eq_nil_of_le (by omega : t.data.toList.length ≤ i), List.drop_eq_getElem_cons (by omega : i < s.data.toList.length)]
      exact U.some _
  induction q with
  | zero =>
    intro i hq h1 h2
    refine U.succ ?_
    simp only [rescindref05_Compare.l0]
    refine U.neg (by omega) (U.succ ?_)
    simp only [rescindref05_Compare.j2]
    exact fin i (by omega) h1 h2 _
  | succ q ih =>
    intro i hq h1 h2
    refine U.succ ?_
    simp only [rescindref05_Compare.l0]
    refine U.pos (by omega) (U.succ ?_)
    simp only [rescindref05_Compare.j2]
    by_cases hi : i < t.size
    · refine U.pos (decide_eq_true (by omega)) (U.pos (by omega) (U.pos (by omega) (U.pos (by omega) ?_)))
      have l1 : i < s.data.toList.length := by rw [data_length]; omega
      have l2 : i < t.data.toList.length := by rw [data_length]; omega
      rw [List.drop_eq_getElem_cons l1, List.drop_eq_getElem_cons l2, Lib.compareBytes, bt_get s i l1, bt_get t i l2]
      generalize s.data.toList[i] = a
      generalize t.data.toList[i] = b
      by_cases e : a = b
      · subst e
        refine U.pos rfl ?_
        rw [if_neg (UInt8.lt_irrefl a), if_neg (UInt8.lt_irrefl a)]
        have := ih (i + 1) (by omega) (by omega) (by omega)
        refine this.congr fun k => ?_
        congr 1
        rw [w64 (by omega) (by omega)]; simp
      · have e' : ¬ ((a.toNat : Int) = (b.toNat : Int)) := fun h => e (UInt8.toNat_inj.mp (by omega))
        refine U.neg e' ?_
        by_cases lt : a < b
        · rw [if_pos lt]
          exact U.pos (by have := UInt8.lt_iff_toNat_lt.mp lt; omega) (U.some _)
        · rw [if_neg lt]
          have h3 : ¬ a.toNat < b.toNat := fun h => lt (UInt8.lt_iff_toNat_lt.mpr h)
          have gt : b < a := UInt8.lt_iff_toNat_lt.mpr (by omega)
          rw [if_pos gt]
          exact U.neg (by omega) (U.some _)
    · rw [decide_eq_false (by omega : ¬ (i : Int) < (t.size : Int))]
      exact fin i (by omega) h1 h2 _
theorem cmp_R (a0 a1 : Int) (a2 : ByteArray) (b0 b1 : Int) (b2 : ByteArray) : U (fun k => rescindref05_Compare.f k a0 a1 a2 b0 b1 b2) (thCmp (thOf a0 a1 a2) (thOf b0 b1 b2)) := by
  unfold rescindref05_Compare.f
  rw [refMay, refMay]
  refine U.bind (U.some _) ?_
  cases ha : (thOf a0 a1 a2).isSome with
  | false =>
    refine U.neg (by simp) (U.succ ?_)
    simp only [rescindref05_Compare.j0]
    refine U.pos trivial (U.const ?_)
    have : thOf a0 a1 a2 = none := by cases h : thOf a0 a1 a2 <;> simp [h] at ha ⊢
    rw [this]; rfl
  | true =>
    refine U.pos rfl (U.bind (U.some _) (U.succ ?_))
    simp only [rescindref05_Compare.j0]
    cases hb : (thOf b0 b1 b2).isSome with
    | false =>
      refine U.pos rfl (U.const ?_)
      have : thOf b0 b1 b2 = none := by cases h : thOf b0 b1 b2 <;> simp [h] at hb ⊢
      rw [this]
      cases thOf a0 a1 a2 with
      | none => rfl
      | some x => cases x <;> rfl
    | true =>
      refine U.neg (by simp) ?_
      rcases thOf_cases ha with ⟨x0, x1, xe⟩ | ⟨x0, x1, x2, xe⟩ <;> rcases thOf_cases hb with ⟨y0, y1, ye⟩ | ⟨y0, y1, y2, ye⟩
      · rw [xe, ye]
        refine U.pos (by omega) ?_
        subst x1 y1
        by_cases e : a1 = b1
        · refine U.pos e ?_
          have := cmp_loop a0 b0 ⟨#[]⟩ ⟨#[]⟩ (by decide) (by decide) a1 b1 0 0 rfl (by omega) (by omega)
          refine this.congr_r ?_
          simp only [thCmp]
          rw [if_neg (by omega), if_neg (by omega)]
          rfl
        · refine U.neg e ?_
          by_cases l : a1 < b1
          · refine U.pos l (U.const ?_); simp only [thCmp]; rw [if_pos l]
          · refine U.neg l (U.const ?_); simp only [thCmp]; rw [if_neg l, if_pos (by omega)]
      · rw [xe, ye]
        refine U.neg (by omega) (U.pos x0 (U.some _))
      · rw [xe, ye]
        refine U.neg (by omega) (U.neg (by omega) (U.some _))
      · rw [xe, ye]
        refine U.pos (by omega) (U.pos (by omega) ?_)
        exact cmp_loop a0 b0 a2 b2 x2 y2 a1 b1 _ 0 rfl (by omega) (by omega)
theorem row_R (row : List Vl) : ∀ (q : Nat) (i : Nat), row.length - i = q → i ≤ 9 → U (fun k => rescindref06_May.l0 k row (i : Int)) (decide (row.length ≤ 8) && (row.drop i).all fun v => (thOf v.f0 v.f1 v.f2).isSome) := by
  intro q
  induction q with
  | zero =>
    intro i hq hi
    refine U.succ ?_
    simp only [rescindref06_May.l0]
    refine U.neg (by omega) (U.succ ?_)
    simp only [rescindref06_May.j1]
    refine U.neg (by simp) (U.const ?_)
    rw [List.drop_eq_nil_of_le (by omega)]
    simp; omega
  | succ q ih =>
    intro i hq hi
    refine U.succ ?_
    simp only [rescindref06_May.l0]
    refine U.pos (by omega) (U.succ ?_)
    simp only [rescindref06_May.j1]
    by_cases h9 : i < 9
    · refine U.pos (decide_eq_true (by omega)) (U.pos (by omega) (U.pos (by omega) ?_))
      have hlt : i < row.length := by omega
      have hrd : rd_T28 row (i : Int) = row[i] := by
        unfold rd_T28
        rw [List.getD_eq_getElem?_getD, Int.toNat_natCast, List.getElem?_eq_getElem hlt]; rfl
      rw [hrd, refMay, List.drop_eq_getElem_cons hlt, List.all_cons]
      refine U.bind (U.some _) ?_
      cases hv : (thOf row[i].f0 row[i].f1 row[i].f2).isSome with
      | false => refine U.neg (by simp) (U.const ?_); simp
      | true =>
        refine U.pos rfl ?_
        have := ih (i + 1) (by omega) (by omega)
        rw [Bool.true_and]
        refine this.congr fun k => ?_
        congr 1
        rw [w64 (by omega) (by omega)]; simp
    · refine U.neg (by simp; omega) (U.const ?_)
      rw [decide_eq_false (by omega), decide_eq_false (by omega)]
      rfl
theorem mayR (row : List Vl) : U (fun k => rescindref06_May.f k row) (rowMay row) := by
  have := row_R row _ 0 rfl (by omega)
  exact this
def outV : Except Int Th → Int × Int × ByteArray × Int
  | .ok v => ((thVal3 v).1, (thVal3 v).2.1, (thVal3 v).2.2, 0)
  | .error e => (0, 0, ⟨#[]⟩, e)
theorem outV_num (r : Int × Int) : numR r = outV (numE r) := by
  unfold numR numE
  split <;> rfl
theorem one_L (row : List Vl) (hr : ROk row) (o : O) (hw : okW o = true) (ht : takes o.f0 = 0) (c : Int) (n : Int) (t : ByteArray) : rescindref18_one.f o.f0 o.f1 o.f2 row c n t = some (outV (evL row o)) := by
  unfold rescindref18_one.f
  rcases takes_0 ht with h | h | h
  · have e : evL row o = .ok (.num o.f1) := by unfold evL; rw [if_pos h]
    rw [e, if_pos h]; rfl
  · have e : evL row o = .ok (.txt o.f2) := by unfold evL; rw [if_neg (by omega), if_pos h]
    rw [e, if_neg (by omega), if_pos h]; rfl
  · have hg := okW_get hw h
    rw [if_neg (by omega), if_neg (by omega), if_pos h]
    by_cases hn : o.f1 < (row.length : Int)
    · have e : evL row o = .ok (getTh (rd_T28 row o.f1)) := by unfold evL; rw [if_neg (by omega), if_neg (by omega), if_pos hn]
      have hm := rd_mem hg.1 hn
      have hv := (getTh_ok ((rowMay_at hr.may).2 _ hm) (hr.r64 _ hm)).2
      rw [e, if_neg (by omega), if_pos hg.1, if_pos hn]
      generalize rd_T28 row o.f1 = v at *
      show some (v.f0, v.f1, v.f2, (0 : Int)) = some ((thVal3 (getTh v)).1, (thVal3 (getTh v)).2.1, (thVal3 (getTh v)).2.2, 0)
      rw [hv]
    · have e : evL row o = .error 3 := by unfold evL; rw [if_neg (by omega), if_neg (by omega), if_neg hn]
      rw [e, if_pos (by omega)]; rfl
theorem one_U (row : List Vl) (o : O) (ht : takes o.f0 = 1) (x : Th) (hx : VOk x) : rescindref18_one.f o.f0 o.f1 o.f2 row (thVal3 x).1 (thVal3 x).2.1 (thVal3 x).2.2 = some (outV (evU o.f0 x)) := by
  unfold rescindref18_one.f
  rcases takes_1 ht with h | h | h
  · rw [if_neg (by omega), if_neg (by omega), if_neg (by omega), if_neg (by omega), h]
    cases x with
    | num a =>
      rw [if_pos (show (thVal3 (.num a)).1 = 1 from rfl), if_neg (by omega)]
      show ((rescindref01_Neg.f a).bind _) = _
      rw [refNeg_eq a hx]
      show (Option.bind (rescindref18_number.f _ _) _) = some (outV (numE (okI (0 - a))))
      unfold rescindref18_number.f numE
      by_cases e : (okI (0 - a)).2 = 0
      · rw [if_pos e, if_pos e]; rfl
      · rw [if_neg e, if_neg e]; rfl
    | txt a => rw [if_neg (by simp [thVal3])]; rfl
  · rw [if_neg (by omega), if_neg (by omega), if_neg (by omega), if_neg (by omega), h]
    cases x with
    | num a =>
      rw [if_pos (show (thVal3 (.num a)).1 = 1 from rfl), if_pos rfl]
      show ((rescindref18_truth.f (a == 0)).bind _) = some (outV (.ok (.num (tv (a == 0)))))
      cases (a == 0) <;> rfl
    | txt a => rw [if_neg (by simp [thVal3])]; rfl
  · rw [if_neg (by omega), if_neg (by omega), if_neg (by omega), if_pos h, h]
    cases x with
    | num a => rw [if_neg (by simp [thVal3])]; rfl
    | txt a => rw [if_pos (show (thVal3 (.txt a)).1 = 2 from rfl)]; rfl
theorem two_R (c : Int) (x y : Th) (hx : VOk x) (hy : VOk y) (hc : 7 ≤ c ∧ c ≤ 20) : U (fun k => rescindref18_two.f k c (thVal3 x).1 (thVal3 x).2.1 (thVal3 x).2.2 (thVal3 y).1 (thVal3 y).2.1 (thVal3 y).2.2) (outV (evB c x y)) := by
  unfold rescindref18_two.f
  by_cases hk' : ¬ (thVal3 x).1 = (thVal3 y).1
  · have hk := hk'
    refine U.pos hk (U.const ?_)
    have : evB c x y = .error 12 := by
      unfold evB compareS
      cases x <;> cases y <;> simp [thVal3] at hk ⊢ <;> repeat' split
      all_goals first | rfl | (intros; rfl)
    rw [this]; rfl
  have hk : (thVal3 x).1 = (thVal3 y).1 := Decidable.not_not.mp hk'
  refine U.neg hk' (U.bind (cmp_R _ _ _ _ _ _) ?_)
  by_cases h13 : 13 ≤ c ∧ c ≤ 18
  · refine U.pos h13 (U.const ?_)
    have : evB c x y = .ok (.num (cmpS c (thCmp (thO x) (thO y)))) := by
      unfold evB compareS
      rw [if_neg (by omega), if_pos h13, if_pos hk]; rfl
    rw [this]; rfl
  refine U.neg h13 ?_
  cases x with
  | txt s =>
    cases y with
    | num b => simp [thVal3] at hk
    | txt t =>
      by_cases h12 : c = 12
      · refine U.neg (by simp [thVal3, h12]) (U.pos h12 ?_)
        simp only [VOk] at hx hy
        have : evB c (.txt s) (.txt t) = if s.size + t.size ≤ 64 then .ok (.txt (s ++ t)) else .error 6 := by unfold evB; rw [if_pos h12]
        rw [this]
        show U (fun k => if s.size + t.size ≤ 64 then some (2, 0, s ++ t, 0) else if s.size + t.size ≤ 4294967296 then some (0, 0, (⟨#[]⟩ : ByteArray), 6) else none) _
        by_cases hl : s.size + t.size ≤ 64
        · simp only [if_pos hl]; exact U.some _
        · simp only [if_neg hl]; exact U.pos (by omega) (U.some _)
      · refine U.pos (by simp [thVal3, h12]) (U.const ?_)
        have : evB c (.txt s) (.txt t) = .error 12 := by unfold evB; rw [if_neg h12, if_neg h13]
        rw [this]; rfl
  | num a =>
    cases y with
    | txt t => simp [thVal3] at hk
    | num b =>
      by_cases h12 : c = 12
      · refine U.pos (by simp [thVal3, h12]) (U.const ?_)
        have : evB c (.num a) (.num b) = .error 12 := by unfold evB; rw [if_pos h12]
        rw [this]; rfl
      · refine U.neg (by simp [thVal3, h12]) (U.neg h12 ?_)
        have e : evB c (.num a) (.num b) = arith c a b := by unfold evB; rw [if_neg h12, if_neg h13]
        rw [e]
        have ha : R64 a := hx
        have hb : R64 b := hy
        show U (fun k => if c = 19 then some (1, tv ((a != 0) && (b != 0)), (⟨#[]⟩ : ByteArray), 0) else if c = 20 then some (1, tv ((a != 0) || (b != 0)), (⟨#[]⟩ : ByteArray), 0) else
          if c = 7 then (rescindref01_Add.f a b).map numR else if c = 8 then (rescindref01_Sub.f a b).map numR else if c = 9 then (rescindref01_Mul.f k a b).map numR else if c = 10 then (rescindref01_Quo.f a b).map numR else (rescindref01_Rem.f a b).map numR) _
        by_cases h19 : c = 19
        · refine U.pos h19 (U.const ?_)
          subst h19
          have : arith 19 a b = .ok (.num (if a ≠ 0 ∧ b ≠ 0 then 1 else 0)) := rfl
          rw [this]
          by_cases ea : a = 0 <;> by_cases eb : b = 0 <;> simp [ea, eb, outV, thVal3, tv]
        refine U.neg h19 ?_
        by_cases h20 : c = 20
        · refine U.pos h20 (U.const ?_)
          subst h20
          have : arith 20 a b = .ok (.num (if a ≠ 0 ∨ b ≠ 0 then 1 else 0)) := rfl
          rw [this]
          by_cases ea : a = 0 <;> by_cases eb : b = 0 <;> simp [ea, eb, outV, thVal3, tv]
        refine U.neg h20 ?_
        by_cases h7 : c = 7
        · refine U.pos h7 (U.const ?_)
          rw [refAdd_eq a b ha hb, Option.map_some, outV_num]
          subst h7; rfl
        refine U.neg h7 ?_
        by_cases h8 : c = 8
        · refine U.pos h8 (U.const ?_)
          rw [refSub_eq a b ha hb, Option.map_some, outV_num]
          subst h8; rfl
        refine U.neg h8 ?_
        by_cases h9 : c = 9
        · refine U.pos h9 (U.succ (U.succ (U.all fun k => ?_)))
          rw [refMul_eq k a b ha hb, Option.map_some, outV_num]
          subst h9; rfl
        refine U.neg h9 ?_
        by_cases h10 : c = 10
        · refine U.pos h10 (U.const ?_)
          rw [refQuo_eq a b ha hb, Option.map_some, outV_num]
          subst h10; rfl
        refine U.neg h10 (U.const ?_)
        rw [refRem_eq a b, Option.map_some, outV_num]
        have : c = 11 := by omega
        subst this; rfl
theorem of_fin (q : List O) (o : O) (hl : (q ++ [o]).length ≤ 64) (row : List Vl) (ps : List (List O)) (vs : List Vl) (i : Int) (hi : ¬ i < (ps.length : Int)) (r : Int × Int × ByteArray × Int)
    (h : if vs.length = 2 then U (fun k => rescindref18_two.f k o.f0 (rd_T28 vs 0).f0 (rd_T28 vs 0).f1 (rd_T28 vs 0).f2 (rd_T28 vs 1).f0 (rd_T28 vs 1).f1 (rd_T28 vs 1).f2) r
      else if vs.length = 1 then rescindref18_one.f o.f0 o.f1 o.f2 row (rd_T28 vs 0).f0 (rd_T28 vs 0).f1 (rd_T28 vs 0).f2 = some r
      else rescindref18_one.f o.f0 o.f1 o.f2 row 0 0 ⟨#[]⟩ = some r) : U (fun k => rescindref18_of.l0 k (q ++ [o]) row ps vs i) r := by
  have hl' := hl
  simp at hl'
  refine U.succ ?_
  simp only [rescindref18_of.l0]
  rw [last_at q o hl]
  refine U.neg hi (U.pos (by rw [last_ix q o hl]; omega) (U.pos (by rw [last_ix q o hl]; simp <;> omega) ?_))
  by_cases h2 : vs.length = 2
  · rw [if_pos h2] at h
    refine U.pos (by omega) (U.pos (by omega) (U.pos (by omega) (U.bind h (U.some _))))
  rw [if_neg h2] at h
  refine U.neg (by omega) ?_
  by_cases h1 : vs.length = 1
  · rw [if_pos h1] at h
    rw [h]
    exact U.pos (by omega) (U.pos (by omega) (U.some _))
  · rw [if_neg h1] at h
    rw [h]
    exact U.neg (by omega) (U.some _)
def AfterR (x : List O) (row : List Vl) (ps : List (List O)) (vs : List Vl) (i : Int) (r : Int × Int × ByteArray × Int) : Except Int Th → Prop
  | .error e => r = (0, 0, ⟨#[]⟩, e)
  | .ok v => U (fun k => rescindref18_of.l0 k x row ps (vs ++ [⟨(thVal3 v).1, (thVal3 v).2.1, (thVal3 v).2.2⟩]) (i + 1)) r
theorem of_step (x : List O) (row : List Vl) (ps : List (List O)) (vs : List Vl) (i : Nat) (p : List O) (hp : ps[i]? = some p) (hi : i < 3) (hv : vs.length < 3) (v : Except Int Th) (hg : Good v) (h : U (fun k => rescindref18_of.f k p row) (outV v)) (r : Int × Int × ByteArray × Int)
    (hr : AfterR x row ps vs (i : Int) r v) : U (fun k => rescindref18_of.l0 k x row ps vs (i : Int)) r := by
  have hlt : i < ps.length := by
    rcases Nat.lt_or_ge i ps.length with h | h
    · exact h
    · rw [List.getElem?_eq_none h] at hp; simp at hp
  refine U.succ ?_
  simp only [rescindref18_of.l0]
  have hrd : ps.getD ((i : Int)).toNat ([] : List O) = p := by
    rw [List.getD_eq_getElem?_getD, Int.toNat_natCast, hp]; rfl
  have h' : U (fun k => rescindref18_of.f k (ps.getD ((i : Int)).toNat ([] : List O)) row) (outV v) := by rw [hrd]; exact h
  refine U.pos (by omega) (U.pos (by omega) (U.bind (a := outV v) ?_ ?_))
  · exact h'
  cases v with
  | error e =>
    refine U.neg hg ?_
    rw [show r = _ from hr]
    exact U.some _
  | ok v =>
    refine U.pos rfl (U.pos (by omega) ?_)
    rw [w64 (by omega) (by omega)]
    exact hr
theorem T.ev_u (row : List Vl) (o : O) (t : T) : (T.u o t).ev row = match t.ev row with
    | .ok x => evU o.f0 x
    | .error e => .error e := rfl
theorem T.ev_b (row : List Vl) (o : O) (t s : T) : (T.b o t s).ev row = match t.ev row with
    | .ok x => (match s.ev row with
      | .ok y => evB o.f0 x y
      | .error e => .error e)
    | .error e => .error e := rfl
theorem of_T (row : List Vl) (hr : ROk row) : ∀ t : T, t.ok → (∀ o ∈ t.fl, R64 o.f1) → t.fl.length ≤ 64 → U (fun k => rescindref18_of.f k t.fl row) (outV (t.ev row))
  | .l o, h, ho, hl => by
    refine U.succ ?_
    simp only [rescindref18_of.f]
    refine U.bind (parts_T _ h hl) ?_
    refine of_fin [] o hl row [] [] 0 (by simp) _ ?_
    rw [if_neg (by simp), if_neg (by simp)]
    exact one_L row hr o h.1 h.2 _ _ _
  | .u o t, h, ho, hl => by
    have ho' : ∀ o ∈ t.fl, R64 o.f1 := fun o' h' => ho o' (by simp [T.fl, h'])
    have hg := good_ev row hr t h.2.2 ho'
    have hl' := hl
    simp [T.fl] at hl'
    refine U.succ ?_
    simp only [rescindref18_of.f]
    refine U.bind (parts_T _ h hl) ?_
    refine of_step _ row _ [] 0 t.fl rfl (by omega) (by simp) (t.ev row) hg (of_T row hr t h.2.2 ho' (by omega)) _ ?_
    rw [T.ev_u]
    cases e : t.ev row with
    | error c => rfl
    | ok x =>
      rw [e] at hg
      show U (fun k => rescindref18_of.l0 k (t.fl ++ [o]) row [t.fl] [⟨(thVal3 x).1, (thVal3 x).2.1, (thVal3 x).2.2⟩] (((0 : Nat) : Int) + 1)) _
      refine of_fin t.fl o hl row _ _ _ (by simp) _ ?_
      rw [if_neg (by simp), if_pos (by simp)]
      exact one_U row o h.2.1 x hg
  | .b o t s, h, ho, hl => by
    have ho1 : ∀ o ∈ t.fl, R64 o.f1 := fun o' h' => ho o' (by simp [T.fl, h'])
    have ho2 : ∀ o ∈ s.fl, R64 o.f1 := fun o' h' => ho o' (by simp [T.fl, h'])
    have hg1 := good_ev row hr t h.2.2.1 ho1
    have hg2 := good_ev row hr s h.2.2.2 ho2
    have hl' := hl
    simp [T.fl] at hl'
    refine U.succ ?_
    simp only [rescindref18_of.f]
    refine U.bind (parts_T _ h hl) ?_
    refine of_step _ row _ [] 0 t.fl rfl (by omega) (by simp) (t.ev row) hg1 (of_T row hr t h.2.2.1 ho1 (by omega)) _ ?_
    rw [T.ev_b]
    cases e : t.ev row with
    | error c => rfl
    | ok x =>
      rw [e] at hg1
      refine of_step _ row _ _ 1 s.fl rfl (by omega) (by simp) (s.ev row) hg2 (of_T row hr s h.2.2.2 ho2 (by omega)) _ ?_
      cases e' : s.ev row with
      | error c => rfl
      | ok y =>
        rw [e'] at hg2
        have hfl : (T.b o t s).fl = (t.fl ++ s.fl) ++ [o] := by simp [T.fl]
        rw [hfl] at hl
        show U (fun k => rescindref18_of.l0 k (T.b o t s).fl row [t.fl, s.fl] [⟨(thVal3 x).1, (thVal3 x).2.1, (thVal3 x).2.2⟩, ⟨(thVal3 y).1, (thVal3 y).2.1, (thVal3 y).2.2⟩] (((1 : Nat) : Int) + 1)) _
        rw [hfl]
        refine of_fin (t.fl ++ s.fl) o hl row _ _ _ (by simp) _ ?_
        rw [if_pos (by simp)]
        exact two_R o.f0 x y hg1 hg2 (takes_2 h.2.1)
structure XOk (x : List O) (row : List Vl) : Prop where
  x : ∀ o ∈ x, R64 o.f1
  row : ∀ v ∈ row, R64 v.f1
def evalV (x : List O) (row : List Vl) : Int × Int × ByteArray × Int :=
  if formV x ≠ 0 then (0, 0, ⟨#[]⟩, formV x) else if rowMay row = false then (0, 0, ⟨#[]⟩, 2) else match parse x [] with
    | some [t] => outV (t.ev row)
    | _ => (0, 0, ⟨#[]⟩, 0)
theorem evalV_T (t : T) (ht : t.ok) (row : List Vl) (hf : formV t.fl = 0) (hm : rowMay row = true) : evalV t.fl row = outV (t.ev row) := by
  unfold evalV
  rw [if_neg (by simp [hf]), if_neg (by simp [hm])]
  have := parse_fl t ht [] []
  rw [List.append_nil] at this
  rw [this]; rfl
theorem eval_E (x : List O) (row : List Vl) (h : XOk x row) : U (fun k => eval_Eval.f k x row) (evalV x row) := by
  refine U.bind (form_E x) ?_
  by_cases h0 : ¬ formV x = 0
  · have e : evalV x row = (0, 0, ⟨#[]⟩, formV x) := by unfold evalV; rw [if_pos h0]
    rw [e]
    exact U.pos h0 (U.some _)
  replace h0 : formV x = 0 := Decidable.not_not.mp h0
  refine U.neg (by simpa using h0) (U.bind (U.some _) ?_)
  by_cases hm : rowMay row = false
  · have e : evalV x row = (0, 0, ⟨#[]⟩, 2) := by unfold evalV; rw [if_neg (by simpa using h0), if_pos hm]
    rw [e]
    exact U.pos hm (U.some _)
  refine U.neg hm ?_
  have hm' : rowMay row = true := by simpa using hm
  obtain ⟨t, ht, rfl, hl⟩ := formV_0 h0
  rw [evalV_T t ht row h0 hm']
  have hr : ROk row := ⟨hm', h.row⟩
  have hw : U (fun k => wordsS k row (t.fl ++ []) []) ((t.ev row).map fun v => [v]) := by
    refine words_T row hr t ht h.x [] [] _ (by simpa using hl) ?_
    cases t.ev row with
    | error e => rfl
    | ok v => exact U.some _
  rw [List.append_nil] at hw
  refine U.bind hw (U.const ?_)
  cases t.ev row <;> rfl
theorem eval_R (x : List O) (row : List Vl) (h : XOk x row) : U (fun k => rescindref18_Eval.f k x row) (evalV x row) := by
  refine U.bind (form_R x) ?_
  by_cases h0 : ¬ formV x = 0
  · have e : evalV x row = (0, 0, ⟨#[]⟩, formV x) := by unfold evalV; rw [if_pos h0]
    rw [e]
    exact U.neg h0 (U.some _)
  replace h0 : formV x = 0 := Decidable.not_not.mp h0
  refine U.pos h0 (U.bind (mayR row) ?_)
  by_cases hm : rowMay row = false
  · have e : evalV x row = (0, 0, ⟨#[]⟩, 2) := by unfold evalV; rw [if_neg (by simpa using h0), if_pos hm]
    rw [e]
    exact U.neg (by simp [hm]) (U.some _)
  have hm' : rowMay row = true := by simpa using hm
  refine U.pos hm' ?_
  obtain ⟨t, ht, rfl, hl⟩ := formV_0 h0
  rw [evalV_T t ht row h0 hm']
  exact U.bind (of_T row ⟨hm', h.row⟩ t ht h.x hl) (U.some _)
def holdsV (x : List O) (row : List Vl) : Bool × Int := if (evalV x row).2.2.2 = 0 then (if (evalV x row).1 = 1 then ((evalV x row).2.1 != 0, 0) else (false, 12)) else (false, (evalV x row).2.2.2)
theorem holds_E (x : List O) (row : List Vl) (h : XOk x row) : U (fun k => eval_Holds.f k x row) (holdsV x row) := by
  refine U.bind (eval_E x row h) ?_
  unfold holdsV
  by_cases h0 : (evalV x row).2.2.2 = 0
  · refine U.pos h0 ?_
    by_cases h1 : (evalV x row).1 = 1
    · refine U.pos h1 (U.const ?_); rw [if_pos h0, if_pos h1]
    · refine U.neg h1 (U.const ?_); rw [if_pos h0, if_neg h1]
  · refine U.neg h0 (U.const ?_); rw [if_neg h0]
end Go.Proofs.Ytbjbnlngdkkidaa.EvP
