/- Texts of this claim, put together by a program: EvT, LgName, LgC, LgD, PLhx0, PLox0, PLox1, PLox, LgS. -/
import Derived.Test.YtpidiibhgfjemaaM4
import Derived.Test.YtpidiibhgfjemaaProg
import Derived.Below
import Derived.Deep.Draws
import Derived.Deep.AppendLies
import Derived.Maps.AppendAt
import Derived.OwnWalk
import Derived.Laws.BytesArg
import Derived.Laws.MakeOwn
import Derived.Laws.OwnMore
import Derived.Deep.OwnRows
import Derived.Tactics
import Derived.Lib.ConvBytes
import Derived.Laws.Slices
import Derived.WalkKit
import Derived.KernelRfl
import Derived.RowKit3
import Derived.Deep.LoopGhost
import Derived.Deep.QuietTactic
import Derived.BigQuiet
import Derived.WideLaws
import Derived.Deep.DeepCutAuto
import Derived.Deep.CutBlock
import Derived.Deep.RegionHeld3
import Derived.Laws.Rows
import Derived.Lib.AppendStr
import Derived.ArgAppend
import Derived.Laws.IdiomCopy
import Derived.OrdersHeld
import Derived.Laws.BitsLemmas
import Derived.RowKit
section
namespace Go.Proofs.Ytpidiibhgfjemaa.EvP
open Go.RowKit Go.Proofs.YtpidiibhgfjemaaW.PrintWords Go.Proofs.YtpidiibhgfjemaaW.PrintLast Go.Proofs.YtpidiibhgfjemaaW.PrintMore
open Go.Proofs.Ytpidiibhgfjemaa.PLg
set_option linter.unusedSimpArgs false
set_option linter.unusedVariables false
theorem last_ix (q : List O) (o : O) (hl : (q ++ [o]).length ≤ 64) : wrap64 (((q ++ [o]).length : Int) - 1) = (q.length : Int) := by
 simp at hl
 rw [w64 (by simp <;> omega) (by simp <;> omega)]; simp
theorem last_at (q : List O) (o : O) (hl : (q ++ [o]).length ≤ 64) : rd_T79 (q ++ [o]) (wrap64 (((q ++ [o]).length : Int) - 1)) = o := by
 rw [last_ix q o hl]
 exact rd_at q o []
theorem tl_head (q : List O) (o : O) (hl : (q ++ [o]).length ≤ 64) (n i r : Int)
  (h : U (fun k => if i < takes o.f0 then (if 0 ≤ (wrap64 (((q ++ [o]).length : Int) - n)) then (if (wrap64 (((q ++ [o]).length : Int) - n)) ≤ ((q ++ [o]).length : Int) then ((rescindref17_Tail.f k ((q ++ [o]).take ((wrap64 (((q ++ [o]).length : Int) - n)) : Int).toNat)).bind fun t => (if t = 0 then (some 0) else (rescindref17_Tail.l0 k (q ++ [o]) (wrap64 (n + t)) (wrap64 (i + 1))))) else (none)) else (none)) else (some n)) r) :
  U (fun k => rescindref17_Tail.l0 k (q ++ [o]) n i) r := by
 have hl' := hl
 simp at hl'
 refine U.succ ?_
 simp only [rescindref17_Tail.l0]
 rw [last_at q o hl]
 refine U.pos (by rw [last_ix q o hl]; omega) (U.pos (by rw [last_ix q o hl]; simp; omega) (U.bind (takes_R o.f0) h))
theorem tl_done (q : List O) (o : O) (hl : (q ++ [o]).length ≤ 64) (n i : Int) (h : ¬ i < takes o.f0) : U (fun k => rescindref17_Tail.l0 k (q ++ [o]) n i) n :=
 tl_head q o hl n i n (U.neg h (U.some _))
theorem tl_more (q : List O) (o : O) (hl : (q ++ [o]).length ≤ 64) (p ys : List O) (hx : q ++ [o] = p ++ ys) (i r m : Int) (h : i < takes o.f0) (hi : 0 ≤ i ∧ i ≤ 2) (ht : U (fun k => rescindref17_Tail.f k p) m)
  (hm : 0 ≤ m ∧ m ≤ 64) (hr : if m = 0 then r = 0 else U (fun k => rescindref17_Tail.l0 k (q ++ [o]) ((ys.length : Int) + m) (i + 1)) r) :
  U (fun k => rescindref17_Tail.l0 k (q ++ [o]) (ys.length : Int) i) r := by
 have hlen : (q ++ [o]).length = p.length + ys.length := by rw [hx]; simp
 have hw : wrap64 (((q ++ [o]).length : Int) - (ys.length : Int)) = (p.length : Int) := by rw [w64 (by omega) (by omega)]; omega
 refine tl_head q o hl _ i r (U.pos h ?_)
 rw [hw]
 have htk : (q ++ [o]).take ((p.length : Int)).toNat = p := by rw [hx]; simp
 rw [htk]
 refine U.pos (by omega) (U.pos (by omega) (U.bind ht ?_))
 by_cases h0 : m = 0
 ·rw [if_pos h0] at hr
  rw [hr]
  exact U.pos h0 (U.some _)
 ·rw [if_neg h0] at hr
  refine U.neg h0 ?_
  rw [w64 (by omega) (by omega), w64 (by omega) (by omega)]
  exact hr
theorem tail_nil : U (fun k => rescindref17_Tail.f k []) 0 := by
 refine U.succ ?_
 simp only [rescindref17_Tail.f]
 refine U.pos (by simp) (U.succ ?_)
 simp only [rescindref17_Tail.j0]
 exact U.pos trivial (U.some _)
theorem tail_word (q : List O) (o : O) (hl : (q ++ [o]).length ≤ 64) (r : Int) (h : if okW o = true then U (fun k => rescindref17_Tail.l0 k (q ++ [o]) 1 0) r else r = 0) : U (fun k => rescindref17_Tail.f k (q ++ [o])) r := by
 have hl' := hl
 simp at hl'
 refine U.succ ?_
 simp only [rescindref17_Tail.f]
 rw [last_at q o hl]
 refine U.neg (by simp; omega) (U.pos (by rw [last_ix q o hl]; omega) (U.pos (by rw [last_ix q o hl]; simp; omega) (U.bind (word_R o) (U.succ ?_))))
 simp only [rescindref17_Tail.j0]
 by_cases hw : okW o = true
 ·rw [if_pos hw] at h
  exact U.neg (by simp [hw]) h
 ·rw [if_neg hw] at h
  rw [h]
  exact U.pos (by simp [hw]) (U.some _)
theorem tail_C : ∀ (t : T), t.ok → ∀ p : List O, (p ++ t.fl).length ≤ 64 → U (fun k => rescindref17_Tail.f k (p ++ t.fl)) (t.fl.length : Int)
 | .l o, h, p, hl => by
  refine tail_word p o hl _ ?_
  rw [if_pos h.1]
  exact tl_done p o hl 1 0 (by rw [h.2]; omega)
 | .u o t, h, p, hl => by
  have e : p ++ (T.u o t).fl = (p ++ t.fl) ++ [o] := by simp [T.fl]
  have hn : ((T.u o t).fl.length : Int) = (([o] : List O).length : Int) + (t.fl.length : Int) := by simp [T.fl]; omega
  have hp := t.fl_pos
  rw [e] at hl ⊢
  have hl' := hl
  simp at hl'
  have h1 := h.2.1
  refine tail_word _ o hl _ ?_
  rw [if_pos h.1]
  refine tl_more _ o hl (p ++ t.fl) [o] rfl 0 _ (t.fl.length : Int) (by omega) (by omega) (tail_C t h.2.2 p (by simp; omega)) (by omega) ?_
  rw [if_neg (by omega), hn]
  exact tl_done _ o hl _ _ (by omega)
 | .b o t s, h, p, hl => by
  have e : p ++ (T.b o t s).fl = ((p ++ t.fl) ++ s.fl) ++ [o] := by simp [T.fl]
  have hn : ((T.b o t s).fl.length : Int) = ((s.fl ++ [o]).length : Int) + (t.fl.length : Int) := by simp [T.fl]; omega
  have hn2 : ((s.fl ++ [o]).length : Int) = (([o] : List O).length : Int) + (s.fl.length : Int) := by simp; omega
  have hp := t.fl_pos
  have hq := s.fl_pos
  rw [e] at hl ⊢
  have hl' := hl
  simp at hl'
  have h1 := h.2.1
  refine tail_word _ o hl _ ?_
  rw [if_pos h.1]
  refine tl_more _ o hl ((p ++ t.fl) ++ s.fl) [o] rfl 0 _ (s.fl.length : Int) (by omega) (by omega) (tail_C s h.2.2.2 (p ++ t.fl) (by simp; omega)) (by omega) ?_
  rw [if_neg (by omega), ← hn2]
  refine tl_more _ o hl (p ++ t.fl) (s.fl ++ [o]) (by simp) (0 + 1) _ (t.fl.length : Int) (by omega) (by omega) (tail_C t h.2.2.1 p (by simp; omega)) (by omega) ?_
  rw [if_neg (by omega), ← hn]
  exact tl_done _ o hl _ _ (by omega)
theorem tail_S : ∀ (n : Nat) (x : List O), x.length ≤ n → x.length ≤ 64 → ∃ r : Int, U (fun k => rescindref17_Tail.f k x) r ∧ 0 ≤ r ∧ r ≤ 64 ∧ (r = 0 ∨ ∃ p t, T.ok t ∧ x = p ++ t.fl ∧ r = (t.fl.length : Int))
 | 0, x, h, _ => by
  obtain rfl : x = [] := List.eq_nil_of_length_eq_zero (by omega)
  exact ⟨0, tail_nil, by omega, by omega, .inl rfl⟩
 | n + 1, x, h, hl => by
  rcases List.eq_nil_or_concat x with rfl | ⟨q, o, hq⟩
  ·exact ⟨0, tail_nil, by omega, by omega, .inl rfl⟩
  rw [List.concat_eq_append] at hq
  subst hq
  have hl' := hl
  have h' := h
  simp at hl' h'
  by_cases hw : okW o = true
  ·have wrd : ∀ r, U (fun k => rescindref17_Tail.l0 k (q ++ [o]) 1 0) r → U (fun k => rescindref17_Tail.f k (q ++ [o])) r := fun r hr => tail_word q o hl r (by rw [if_pos hw]; exact hr)
   rcases okW_takes hw with h0 | h0 | h0
   ·exact ⟨1, wrd _ (tl_done q o hl 1 0 (by omega)), by omega, by omega, .inr ⟨q, .l o, ⟨hw, h0⟩, rfl, rfl⟩⟩
   ·obtain ⟨m, hm, m0, m1, hc⟩ := tail_S n q (by omega) (by omega)
    rcases hc with rfl | ⟨p, t, ht, rfl, rfl⟩
    ·exact ⟨0, wrd _ (tl_more q o hl q [o] rfl 0 0 0 (by omega) (by omega) hm (by omega) (by rw [if_pos rfl])), by omega, by omega, .inl rfl⟩
    ·have hp := t.fl_pos
     simp at hl'
     refine ⟨(([o] : List O).length : Int) + (t.fl.length : Int), wrd _ (tl_more _ o hl (p ++ t.fl) [o] rfl 0 _ (t.fl.length : Int) (by omega) (by omega) hm (by omega) ?_), by omega, by simp; omega, .inr ⟨p, .u o t, ⟨hw, h0, ht⟩, by simp [T.fl], by simp [T.fl]; omega⟩⟩
     rw [if_neg (by omega)]
     exact tl_done _ o hl _ _ (by omega)
   ·obtain ⟨m, hm, m0, m1, hc⟩ := tail_S n q (by omega) (by omega)
    rcases hc with rfl | ⟨p, s, hs, rfl, rfl⟩
    ·exact ⟨0, wrd _ (tl_more q o hl q [o] rfl 0 0 0 (by omega) (by omega) hm (by omega) (by rw [if_pos rfl])), by omega, by omega, .inl rfl⟩
    ·have hp := s.fl_pos
     simp at hl' h'
     have hn2 : ((s.fl ++ [o]).length : Int) = (([o] : List O).length : Int) + (s.fl.length : Int) := by simp; omega
     obtain ⟨m', hm', m0', m1', hc'⟩ := tail_S n p (by omega) (by omega)
     rcases hc' with rfl | ⟨p', t, ht, rfl, rfl⟩
     ·refine ⟨0, wrd _ (tl_more _ o hl (p ++ s.fl) [o] rfl 0 _ (s.fl.length : Int) (by omega) (by omega) hm (by omega) ?_), by omega, by omega, .inl rfl⟩
      rw [if_neg (by omega), ← hn2]
      exact tl_more _ o hl p (s.fl ++ [o]) (by simp) (0 + 1) _ 0 (by omega) (by omega) hm' (by omega) (by rw [if_pos rfl])
     ·have hq := t.fl_pos
      simp at hl' h'
      refine ⟨((s.fl ++ [o]).length : Int) + (t.fl.length : Int), wrd _ (tl_more _ o hl ((p' ++ t.fl) ++ s.fl) [o] rfl 0 _ (s.fl.length : Int) (by omega) (by omega) hm (by omega) ?_), by omega, by simp; omega, .inr ⟨p', .b o t s, ⟨hw, h0, ht, hs⟩, by simp [T.fl], by simp [T.fl]; omega⟩⟩
      rw [if_neg (by omega), ← hn2]
      refine tl_more _ o hl (p' ++ t.fl) (s.fl ++ [o]) (by simp) (0 + 1) _ (t.fl.length : Int) (by omega) (by omega) hm' (by omega) ?_
      rw [if_neg (by omega)]
      exact tl_done _ o hl _ _ (by omega)
  ·exact ⟨0, tail_word q o hl 0 (by rw [if_neg hw]), by omega, by omega, .inl rfl⟩
theorem form_R (x : List O) : U (fun k => rescindref17_Form.f k x) (formV x) := by
 unfold rescindref17_Form.f formV
 by_cases h : x.length > 64
 ·rw [if_pos h]; exact U.pos (by omega) (U.some _)
 rw [if_neg h]
 refine U.neg (by omega) ?_
 by_cases h0 : x = []
 ·subst h0; exact U.pos (by simp) (U.some _)
 have hx0 : x.length ≠ 0 := fun e => h0 (List.eq_nil_of_length_eq_zero e)
 refine U.neg (by omega) ?_
 obtain ⟨r, hr, r0, r1, hc⟩ := tail_S x.length x (Nat.le_refl _) (by omega)
 refine U.bind hr ?_
 by_cases he : r = (x.length : Int)
 ·rw [if_pos he]
  rcases hc with rfl | ⟨p, t, ht, hx, hrt⟩
  ·exact absurd he (by omega)
  have hp : p = [] := by
   apply List.eq_nil_of_length_eq_zero
   have := congrArg List.length hx
   simp at this
   omega
  subst hp
  have := parse_fl t ht [] []
  rw [List.append_nil] at this
  rw [List.nil_append] at hx
  rw [hx, this]
  exact U.some _
 ·rw [if_neg he]
  rcases formR_or (parse x []) with h1 | h1
  ·exfalso
   obtain ⟨t, ht⟩ := formR_0 h1
   obtain ⟨tk, hxt⟩ := parse_one ht
   have := tail_C t tk [] (by rw [← hxt]; simp; omega)
   rw [List.nil_append, ← hxt] at this
   exact he (hr.uniq this)
  ·rw [h1]; exact U.some _
end Go.Proofs.Ytpidiibhgfjemaa.EvP
end
section
namespace Go.Proofs.Ytpidiibhgfjemaa.EvP
open Go.RowKit Go.Proofs.YtpidiibhgfjemaaW.PrintWords Go.Proofs.YtpidiibhgfjemaaW.PrintLast Go.Proofs.YtpidiibhgfjemaaW.PrintMore
open Go.Proofs.Ytpidiibhgfjemaa.PLg
set_option linter.unusedSimpArgs false
set_option linter.unusedVariables false
def okB (b : Int) : Bool := (decide (97 ≤ b) && decide (b ≤ 122)) || (decide (48 ≤ b) && decide (b ≤ 57))
def restOk (s : ByteArray) (i : Nat) : Bool := decide (∀ j, j < s.size → i ≤ j → okB (bt s (j : Int)) = true)
theorem rest_step (s : ByteArray) (i : Nat) (h : i < s.size) : restOk s i = (okB (bt s (i : Int)) && restOk s (i + 1)) := by
 unfold restOk
 rw [Bool.eq_iff_iff]
 simp only [decide_eq_true_eq, Bool.and_eq_true]
 constructor
 ·intro k
  exact ⟨k i h (Nat.le_refl _), fun j hj hij => k j hj (by omega)⟩
 ·rintro ⟨k0, k⟩ j hj hij
  rcases Nat.eq_or_lt_of_le hij with e | e
  ·subst e; exact k0
  ·exact k j hj e
theorem rest_end (s : ByteArray) (i : Nat) (h : ¬ i < s.size) : restOk s i = true := by
 unfold restOk
 rw [decide_eq_true_eq]
 intro j hj hij
 omega
def kwB (s : ByteArray) : Bool := s.toList == ([97, 110, 100] : List UInt8) || s.toList == ([111, 114] : List UInt8) || s.toList == ([110, 111, 116] : List UInt8) || s.toList == ([108, 101, 110] : List UInt8)
def nameB (s : ByteArray) : Bool := decide (1 ≤ s.size) && decide (s.size ≤ 16) && decide (97 ≤ bt s 0) && restOk s 0 && !kwB s
theorem name_l0 (s : ByteArray) (hs : s.size ≤ 16) : ∀ (q i : Nat), s.size - i = q → i ≤ s.size → U (fun k => schema_Name.l0 k s (s.size : Int) (i : Int)) (restOk s i && !kwB s) := by
 intro q
 induction q with
 | zero =>
  intro i hq hi
  refine U.succ ?_
  simp only [schema_Name.l0]
  refine U.neg (by omega) ?_
  rw [rest_end s i (by omega), Bool.true_and]
  unfold kwB
  by_cases h1 : s.toList = ([97, 110, 100] : List UInt8)
  ·exact U.pos h1 (U.const (by simp [h1]))
  refine U.neg h1 ?_
  by_cases h2 : s.toList = ([111, 114] : List UInt8)
  ·exact U.pos h2 (U.const (by simp [h2]))
  refine U.neg h2 ?_
  by_cases h3 : s.toList = ([110, 111, 116] : List UInt8)
  ·exact U.pos h3 (U.const (by simp [h3]))
  refine U.neg h3 ?_
  by_cases h4 : s.toList = ([108, 101, 110] : List UInt8)
  ·exact U.pos h4 (U.const (by simp [h4]))
  ·exact U.neg h4 (U.const (by simp [h1, h2, h3, h4]))
 | succ q ih =>
  intro i hq hi
  have hlt : i < s.size := by omega
  refine U.succ ?_
  simp only [schema_Name.l0]
  have hn := ih (i + 1) (by omega) (by omega)
  have hw : wrap64 ((i : Int) + 1) = ((i + 1 : Nat) : Int) := by rw [w64 (by omega) (by omega)]; simp
  rw [rest_step s i hlt, hw]
  refine U.pos (by omega) (U.pos (by omega) (U.pos (by omega) ?_))
  generalize bt s (i : Int) = b
  have go : okB b = true → U (fun k => schema_Name.l0 k s (s.size : Int) ((i + 1 : Nat) : Int)) (okB b && restOk s (i + 1) && !kwB s) := fun h => by rw [h, Bool.true_and]; exact hn
  have no : okB b = false → U (fun _ => some false) (okB b && restOk s (i + 1) && !kwB s) := fun h => by rw [h]; exact U.some _
  have dig : ¬ (97 ≤ b ∧ b ≤ 122) → U (fun k => if b < 48 then (some false) else (if b > 57 then (some false) else (schema_Name.l0 k s (s.size : Int) ((i + 1 : Nat) : Int)))) (okB b && restOk s (i + 1) && !kwB s) := by
   intro hn1
   by_cases h3 : b < 48
   ·exact U.pos h3 (no (by unfold okB; simp; omega))
   refine U.neg h3 ?_
   by_cases h4 : b > 57
   ·exact U.pos h4 (no (by unfold okB; simp; omega))
   ·exact U.neg h4 (go (by unfold okB; simp; omega))
  by_cases h1 : b ≥ 97
  ·refine U.pos h1 ?_
   by_cases h2 : b ≤ 122
   ·exact U.pos h2 (go (by unfold okB; simp; omega))
   ·exact U.neg h2 (dig (by omega))
  ·exact U.neg h1 (dig (by omega))
theorem name_E (s : ByteArray) : U (fun k => schema_Name.f k s) (nameB s) := by
 unfold schema_Name.f nameB
 have j : ∀ b : Bool, s.size ≤ 16 → U (fun k => schema_Name.j0 k s b) (!b && restOk s 0 && !kwB s) := by
  intro b hs
  refine U.succ ?_
  simp only [schema_Name.j0]
  cases b with
  | true => exact U.pos rfl (U.some _)
  | false => exact U.neg (by simp) (by simpa using name_l0 s hs _ 0 rfl (by omega))
 have jt : U (fun k => schema_Name.j0 k s true) false := by
  refine U.succ ?_
  simp only [schema_Name.j0]
  exact U.pos trivial (U.some _)
 by_cases h1 : s.size < 1
 ·refine U.pos (by omega) ?_
  rw [decide_eq_false (by omega : ¬ 1 ≤ s.size)]
  exact jt
 refine U.neg (by omega) ?_
 rw [decide_eq_true (by omega : 1 ≤ s.size)]
 by_cases h2 : s.size > 16
 ·refine U.pos (by omega) ?_
  rw [decide_eq_false (by omega : ¬ s.size ≤ 16)]
  exact jt
 refine U.neg (by omega) (U.pos (by omega) ?_)
 rw [decide_eq_true (by omega : s.size ≤ 16)]
 refine (j (decide (bt s 0 < 97)) (by omega)).congr_r ?_
 by_cases h3 : bt s 0 < 97
 ·rw [decide_eq_true h3, decide_eq_false (by omega : ¬ 97 ≤ bt s 0)]; simp
 ·rw [decide_eq_false h3, decide_eq_true (by omega : 97 ≤ bt s 0)]; simp
theorem nameR_l0 (s : ByteArray) (hs : s.size ≤ 16) : ∀ (q i : Nat), s.size - i = q → i ≤ s.size → U (fun k => rescindref07_Name.l0 k s (i : Int)) ((decide (0 < i) || decide (97 ≤ bt s 0)) && restOk s i || decide (i = 0 ∧ s.size = 0)) := by
 intro q
 induction q with
 | zero =>
  intro i hq hi
  refine U.succ ?_
  simp only [rescindref07_Name.l0]
  refine U.neg (by omega) (U.const ?_)
  rw [rest_end s i (by omega)]
  by_cases h0 : 0 < i
  ·simp [h0]
  ·have e1 : i = 0 := by omega
   have e2 : s.size = 0 := by omega
   simp [e1, e2]
 | succ q ih =>
  intro i hq hi
  have hlt : i < s.size := by omega
  refine U.succ ?_
  simp only [rescindref07_Name.l0]
  have hn := ih (i + 1) (by omega) (by omega)
  have hw : wrap64 ((i : Int) + 1) = ((i + 1 : Nat) : Int) := by rw [w64 (by omega) (by omega)]; simp
  have hz : decide (i + 1 = 0 ∧ s.size = 0) = false := decide_eq_false (by omega)
  have hz2 : decide (i = 0 ∧ s.size = 0) = false := decide_eq_false (by omega)
  rw [hz, decide_eq_true (by omega : 0 < i + 1)] at hn
  simp only [Bool.true_or, Bool.true_and, Bool.or_false] at hn
  rw [rest_step s i hlt, hw, hz2, Bool.or_false]
  refine U.pos (by omega) (U.pos (by omega) ?_)
  have first : ¬ 0 < i → bt s 0 = bt s (i : Int) := fun h => by rw [show i = 0 from by omega]; rfl
  generalize hb : bt s (i : Int) = b at *
  have go : okB b = true → (0 < i ∨ 97 ≤ b) → U (fun k => rescindref07_Name.l0 k s ((i + 1 : Nat) : Int)) ((decide (0 < i) || decide (97 ≤ bt s 0)) && (okB b && restOk s (i + 1))) := fun h h' => by
   have : (decide (0 < i) || decide (97 ≤ bt s 0)) = true := by
    by_cases c : 0 < i
    ·simp [c]
    ·rw [first c]; rcases h' with h' | h'
     ·exact absurd h' c
     ·simp [h']
   rw [this, h, Bool.true_and, Bool.true_and]; exact hn
  have no : (okB b = false ∨ (¬ 0 < i ∧ ¬ 97 ≤ b)) → U (fun _ => some false) ((decide (0 < i) || decide (97 ≤ bt s 0)) && (okB b && restOk s (i + 1))) := fun h => by
   rcases h with h | ⟨h, h'⟩
   ·rw [h]; simp; exact U.some _
   ·rw [first h, decide_eq_false h, decide_eq_false h']; exact U.some _
  by_cases h1 : b ≥ 48
  ·refine U.pos h1 ?_
   by_cases h2 : b < 97
   ·refine U.pos h2 ?_
    by_cases h3 : b ≤ 57
    ·refine U.pos h3 ?_
     by_cases h4 : i = 0
     ·exact U.pos (by omega) (no (.inr ⟨by omega, by omega⟩))
     ·exact U.neg (by omega) (go (by unfold okB; simp; omega) (.inl (by omega)))
    ·exact U.neg h3 (no (.inl (by unfold okB; simp; omega)))
   ·refine U.neg h2 ?_
    by_cases h3 : b > 122
    ·refine U.pos h3 (U.neg (by omega) (no (.inl (by unfold okB; simp; omega))))
    ·exact U.neg h3 (go (by unfold okB; simp; omega) (.inr (by omega)))
  ·refine U.neg h1 (U.pos (by omega) (no (.inl (by unfold okB; simp; omega))))
theorem name_R (s : ByteArray) : U (fun k => rescindref07_Name.f k s) (nameB s) := by
 unfold rescindref07_Name.f nameB
 have jt : U (fun k => rescindref07_Name.j0 k s true) false := by
  refine U.succ ?_
  simp only [rescindref07_Name.j0]
  exact U.pos trivial (U.some _)
 by_cases h1 : s.size = 0
 ·refine U.pos (by omega) ?_
  rw [decide_eq_false (by omega : ¬ 1 ≤ s.size)]
  exact jt
 refine U.neg (by omega) ?_
 rw [decide_eq_true (by omega : 1 ≤ s.size)]
 by_cases h2 : s.size > 16
 ·refine U.pos (by omega) ?_
  rw [decide_eq_false (by omega : ¬ s.size ≤ 16)]
  exact jt
 refine U.neg (by omega) ?_
 rw [decide_eq_true (by omega : s.size ≤ 16)]
 have fin : ∀ r : Bool, kwB s = true → r = false → U (fun k => rescindref07_Name.j0 k s true) (true && true && decide (97 ≤ bt s 0) && restOk s 0 && !kwB s) := fun r h _ => by rw [h]; simpa using jt
 by_cases h3 : s.toList = ([97, 110, 100] : List UInt8)
 ·exact U.pos h3 (fin false (by unfold kwB; simp [h3]) rfl)
 refine U.neg h3 ?_
 by_cases h4 : s.toList = ([111, 114] : List UInt8)
 ·exact U.pos h4 (fin false (by unfold kwB; simp [h4]) rfl)
 refine U.neg h4 ?_
 by_cases h5 : s.toList = ([110, 111, 116] : List UInt8)
 ·exact U.pos h5 (fin false (by unfold kwB; simp [h5]) rfl)
 refine U.neg h5 ?_
 by_cases h6 : s.toList = ([108, 101, 110] : List UInt8)
 ·have e : (s.toList == ([108, 101, 110] : List UInt8)) = true := by simp [h6]
  rw [e]
  exact fin false (by unfold kwB; simp [h6]) rfl
 have e : (s.toList == ([108, 101, 110] : List UInt8)) = false := by simp [h6]
 rw [e]
 have hk : kwB s = false := by unfold kwB; simp [h3, h4, h5, h6]
 rw [hk]
 refine U.succ ?_
 simp only [rescindref07_Name.j0]
 refine U.neg (by simp) ?_
 refine (nameR_l0 s (by omega) _ 0 rfl (by omega)).congr_r ?_
 rw [decide_eq_false (by omega : ¬ ((0 : Nat) = 0 ∧ s.size = 0))]
 simp
end Go.Proofs.Ytpidiibhgfjemaa.EvP
end
section
namespace Go.Proofs.Ytpidiibhgfjemaa.PLh
open Go.Proofs.Ytpidiibhgfjemaa.PLg
open Go.RowKit Go.Proofs.YtpidiibhgfjemaaW.PrintWords Go.Proofs.YtpidiibhgfjemaaW.PrintLast Go.Proofs.YtpidiibhgfjemaaW.PrintMore
theorem drawn_below {w w' : World} (h : Drawn0 w w') : Below w.heap.size w w' := by
 obtain ⟨n, rfl⟩ := h
 exact pw_below_drewN (Below.refl _ w) n
theorem name_calls (s : ByteArray) (w : World) : Calls Try.prog 39 #[.string s] w fun e w' => e = .returned (.bool (EvP.nameB s)) ∧ Drawn0 w w' := by
 obtain ⟨k, hk⟩ := (EvP.name_E s).get
 exact schema_Name.calls k s _ w hk
def colB (c : Int) : Bool := decide (c ≥ 0) && decide (c < 8)
theorem colB_f (c : Int) : plan_col.f c = some (colB c) := by
 unfold plan_col.f colB
 by_cases h : c ≥ 0
 ·rw [if_pos h, decide_eq_true h, Bool.true_and]
 ·rw [if_neg h, decide_eq_false h]; rfl
theorem col_calls (c : Int) (w : World) : Calls Try.prog 35 #[.int .i64 c] w fun e w' => e = .returned (.bool (colB c)) ∧ Drawn0 w w' := plan_col.calls c _ w (colB_f c)
theorem lists2_calls (c : Int) (w : World) : Calls Try.prog 40 #[.int .i64 c] w fun e w' => e = .returned (.bool (!colB c)) ∧ Below w.heap.size w w' := by
 have C := Lib.hid (col_calls c)
 generalize colB c = b at *
 go_enter Try.func40, Try.ntmps40
 go_wp2_with (go_at_call 35; ((with_reducible refine (C.out _).mono ?_); rintro e w' ⟨rfl, hd⟩; have HD := Lib.hid (drawn_below hd); clear hd))
 go_ret
 exact ⟨rfl, HD⟩
theorem lists11_calls (s : ByteArray) (g : Nat) (w : World) (hc : w.cell? ⟨g, 0, none⟩ = some (.func (.func 39) #[] #[])) :
  Calls Try.prog 37 #[.string s, .pointer (some ⟨g, 0, none⟩)] w fun e w' => e = .returned (.bool (!EvP.nameB s)) ∧ Below w.heap.size w w' := by
 have C := Lib.hid (name_calls s)
 generalize EvP.nameB s = b at *
 go_enter Try.func37, Try.ntmps37
 go_wp2_with ((with_reducible refine (C.out _).mono ?_); rintro e w' ⟨rfl, hd⟩; have HD := Lib.hid (drawn_below hd); clear hd)
 go_ret
 exact ⟨rfl, HD⟩
def aggB (x : S43) : Bool := decide (x.f0 ≥ 1) && decide (x.f0 ≤ 7) && colB x.f1 && EvP.nameB x.f2
set_option maxHeartbeats 1000000 in
theorem agg_calls (x0 x1 : Int) (x2 : ByteArray) (w : World) :
  Calls Try.prog 43 #[.agg #[.int .i64 x0, .int .i64 x1, .string x2]] w fun e w' => e = .returned (.bool (aggB ⟨x0, x1, x2⟩)) ∧ Below w.heap.size w w' := by
 have C := Lib.hid (col_calls x1)
 have N := Lib.hid (name_calls x2)
 have HB := Lib.hid (Below.alloc (Below.refl w.heap.size w) (Nat.le_refl _) (.cells #[.int .i64 x0, .int .i64 x1, .string x2] 43 (0, 0)))
 have hu := Try.underlying43
 have hv : aggB ⟨x0, x1, x2⟩ = (decide (x0 ≥ 1) && decide (x0 ≤ 7) && colB x1 && EvP.nameB x2) := rfl
 generalize aggB ⟨x0, x1, x2⟩ = r at *
 generalize colB x1 = c at *
 generalize EvP.nameB x2 = m at *
 by_cases h1 : x0 ≥ 1
 ·have b1 : decide (x0 ≥ 1) = true := decide_eq_true h1
  clear h1
  by_cases h2 : x0 ≤ 7
  ·have b2 : decide (x0 ≤ 7) = true := decide_eq_true h2
   clear h2
   rw [b1, b2, Bool.true_and, Bool.true_and] at hv
   subst hv
   cases c
   ·go_enter Try.func43, Try.ntmps43
    go_wp2_with (go_at_call 35; ((with_reducible refine (C.out _).mono ?_); rintro e w' ⟨rfl, ⟨n1, rfl⟩⟩))
    go_ret
    exact ⟨rfl, pw_below_drewN HB n1⟩
   ·rw [Bool.true_and]
    go_enter Try.func43, Try.ntmps43
    go_wp2_with (first
     | (go_at_call 35; ((with_reducible refine (C.out _).mono ?_); rintro e w' ⟨rfl, ⟨n1, rfl⟩⟩))
     | (go_at_call 39; ((with_reducible refine (N.out _).mono ?_); rintro e w' ⟨rfl, ⟨n2, rfl⟩⟩)))
    go_ret
    exact ⟨rfl, pw_below_drewN HB (n1 + n2)⟩
  ·have b2 : decide (x0 ≤ 7) = false := decide_eq_false h2
   clear h2
   rw [b1, b2] at hv
   obtain rfl : r = false := hv
   go_enter Try.func43, Try.ntmps43
   go_wp2_with fail
   go_ret
   exact ⟨rfl, HB⟩
 ·have b1 : decide (x0 ≥ 1) = false := decide_eq_false h1
  clear h1
  rw [b1] at hv
  obtain rfl : r = false := hv
  go_enter Try.func43, Try.ntmps43
  go_wp2_with fail
  go_ret
  exact ⟨rfl, HB⟩
theorem lists3_calls (x : S43) (w : World) :
  Calls Try.prog 42 #[.agg #[.int .i64 x.f0, .int .i64 x.f1, .string x.f2]] w fun e w' => e = .returned (.bool (!aggB x)) ∧ Below w.heap.size w w' := by
 have C := Lib.hid (agg_calls x.f0 x.f1 x.f2)
 have HB := Lib.hid (Below.alloc (Below.refl w.heap.size w) (Nat.le_refl _) (.cells #[.int .i64 x.f0, .int .i64 x.f1, .string x.f2] 43 (0, 0)))
 have hu := Try.underlying43
 have e0 : aggB ⟨x.f0, x.f1, x.f2⟩ = aggB x := rfl
 rw [e0] at C
 clear e0
 generalize aggB x = b at *
 go_enter Try.func42, Try.ntmps42
 go_wp2_with (go_at_call 43; ((with_reducible refine (C.out _).mono ?_); rintro e w' ⟨rfl, hd⟩; have HD := Lib.hid hd; clear hd))
 go_ret
 exact ⟨rfl, HB.out.trans (HD.out.mono (by simp))⟩
end Go.Proofs.Ytpidiibhgfjemaa.PLh
end
section
namespace Go.Proofs.Ytpidiibhgfjemaa.PLh
open Go.Proofs.Ytpidiibhgfjemaa.PLg
open Go.RowKit Go.Proofs.YtpidiibhgfjemaaW.PrintWords Go.Proofs.YtpidiibhgfjemaaW.PrintLast Go.Proofs.YtpidiibhgfjemaaW.PrintMore
theorem lists1_calls (w : World) : Calls Try.prog 36 #[.func (.func 39) #[] #[]] w fun e w' => ∃ g, e = .returned (.func (.func 37) #[] #[.pointer (some ⟨g, 0, none⟩)]) ∧ Below w.heap.size w w' ∧ g < w'.heap.size ∧ w'.cell? ⟨g, 0, none⟩ = some (.func (.func 39) #[] #[]) := by
 have hmf : ∀ (fn : Fn) (first cap : Array Value) (w : World), (Instr.makeFunc fn first cap).run Try.prog w = .ok (.func fn first cap) w := fun _ _ _ _ => rfl
 go_enter Try.func36, Try.ntmps36
 go_wp2
 go_ret
 exact ⟨_, rfl, (Below.refl _ _).alloc (Nat.le_refl _) _, by simp, (blk_cell (blk_new w _) 0).trans rfl⟩
theorem join_below {B : Nat} {a v u w' : World} (h : Below B a v) (k : Below u.heap.size u w') (hv : u.os = v.os ∧ u.tape = v.tape ∧ u.output = v.output ∧ u.heap = v.heap) (hB : B ≤ v.heap.size) : Below B a w' := by
 obtain ⟨h1, h2, h3, h4⟩ := hv
 refine ⟨k.os.trans (h1.trans h.os), k.tape.trans (h2.trans h.tape), k.output.trans (h3.trans h.output), Nat.le_trans h.size (by rw [← h4]; exact k.size), fun i hi => ?_⟩
 rw [k.block i (by rw [h4]; omega), h4]
 exact h.block i hi
theorem has_str (A0 : Option Addr) (c0 : Nat) (l : List ByteArray) (g : Nat) (w : World) (hg : g < w.heap.size) (hc : w.cell? ⟨g, 0, none⟩ = some (.func (.func 39) #[] #[])) (hr0 : Kd.C Kd.string w A0 l.length l) (hl : l.length ≤ 1000) :
  Calls Try.prog 38 #[.slice A0 l.length c0, .func (.func 37) #[] #[.pointer (some ⟨g, 0, none⟩)]] w fun e w' => e = .returned (.bool (l.any fun s => !EvP.nameB s)) ∧ Below w.heap.size w w' := by
 have C := Lib.hid (ix_strc (fun s => !EvP.nameB s) 37 (.pointer (some ⟨g, 0, none⟩)) A0 c0 l w (fun x w1 _ hb => lists11_calls x g w1 ((hb.cell (p := ⟨g, 0, none⟩) hg).trans hc)) (fun args w => by rfl) hr0 hl)
 clear hr0 hl hc
 generalize (l.any fun s => !EvP.nameB s) = b at *
 go_enter Try.func38, Try.ntmps38
 go_wp2_with (go_at_call 54; ((with_reducible refine C.out.mono ?_); rintro e w' ⟨⟨r, rfl, hr⟩, hb⟩; have HRR := Lib.hid hr; clear hr))
 go_ret
 exact ⟨by rw [← HRR.out]; rfl, hb⟩
theorem has_int (A0 : Option Addr) (c0 : Nat) (l : List Int) (w : World) (hr0 : Kd.C (Kd.int .i64) w A0 l.length l) (hl : l.length ≤ 1000) :
  Calls Try.prog 27 #[.slice A0 l.length c0, .func (.func 40) #[] #[]] w fun e w' => e = .returned (.bool (l.any fun c => !colB c)) ∧ Below w.heap.size w w' := by
 have C := Lib.hid (ix_int (fun c => !colB c) 40 A0 c0 l w (fun x w1 _ hb => lists2_calls x w1) (fun args w => by rfl) hr0 hl)
 clear hr0 hl
 generalize (l.any fun c => !colB c) = b at *
 go_enter Try.func27, Try.ntmps27
 go_wp2_with (go_at_call 44; ((with_reducible refine C.out.mono ?_); rintro e w' ⟨⟨r, rfl, hr⟩, hb⟩; have HRR := Lib.hid hr; clear hr))
 go_ret
 exact ⟨by rw [← HRR.out]; rfl, hb⟩
theorem has_agg (A0 : Option Addr) (c0 : Nat) (l : List S43) (w : World) (hr0 : Kd.C k43 w A0 l.length l) (hl : l.length ≤ 1000) :
  Calls Try.prog 41 #[.slice A0 l.length c0, .func (.func 42) #[] #[]] w fun e w' => e = .returned (.bool (l.any fun x => !aggB x)) ∧ Below w.heap.size w w' := by
 have C := Lib.hid (ix_agg (fun x => !aggB x) 42 A0 c0 l w (fun x w1 _ hb => lists3_calls x w1) (fun args w => by rfl) hr0 hl)
 clear hr0 hl
 generalize (l.any fun x => !aggB x) = b at *
 go_enter Try.func41, Try.ntmps41
 go_wp2_with (go_at_call 55; ((with_reducible refine C.out.mono ?_); rintro e w' ⟨⟨r, rfl, hr⟩, hb⟩; have HRR := Lib.hid hr; clear hr))
 go_ret
 exact ⟨by rw [← HRR.out]; rfl, hb⟩
def listsB (l4 : List ByteArray) (l5 : List Int) (l6 : List S43) : Bool := !(l4.any fun s => !EvP.nameB s) && !(l5.any fun c => !colB c) && !(l6.any fun x => !aggB x)
def plan_lists.f (a0_0 : Int) (a0_1 : Int) (a0_2 : Int) (l0_3 : List (List (S79))) (l0_4 : List ByteArray) (l0_5 : List Int) (l0_6 : List (S43)) (a0_7 : Int) (a0_8 : Int) (a0_9 : Int) (a0_10 : Int) (a0_11 : Int) : Option Bool := if l0_4.length ≤ 1000 ∧ l0_5.length ≤ 1000 ∧ l0_6.length ≤ 1000 then some (listsB l0_4 l0_5 l0_6) else none
set_option maxHeartbeats 4000000 in
set_option maxRecDepth 100000 in
theorem plan_lists.calls (a0_0 : Int) (a0_1 : Int) (a0_2 : Int) (A0_3 : Option Addr) (c0_3 : Nat) (l0_3 : List (List (S79))) (A0_4 : Option Addr) (c0_4 : Nat) (l0_4 : List ByteArray) (A0_5 : Option Addr) (c0_5 : Nat) (l0_5 : List Int) (A0_6 : Option Addr) (c0_6 : Nat) (l0_6 : List (S43)) (a0_7 : Int) (a0_8 : Int) (a0_9 : Int) (a0_10 : Int) (a0_11 : Int) (r : Bool) (w : World) (hr0_3 : Kd.C (Kd.slice 79 k79) w A0_3 l0_3.length l0_3) (hc0_3 : l0_3.length ≤ c0_3) (hr0_4 : Kd.C Kd.string w A0_4 l0_4.length l0_4) (hc0_4 : l0_4.length ≤ c0_4) (hr0_5 : Kd.C (Kd.int .i64) w A0_5 l0_5.length l0_5) (hc0_5 : l0_5.length ≤ c0_5) (hr0_6 : Kd.C k43 w A0_6 l0_6.length l0_6) (hc0_6 : l0_6.length ≤ c0_6) (h : plan_lists.f a0_0 a0_1 a0_2 l0_3 l0_4 l0_5 l0_6 a0_7 a0_8 a0_9 a0_10 a0_11 = some r) :
  Calls Try.prog 26 #[.agg #[.int .i64 a0_0, .int .i64 a0_1, .int .i64 a0_2, .slice A0_3 l0_3.length c0_3, .slice A0_4 l0_4.length c0_4, .slice A0_5 l0_5.length c0_5, .slice A0_6 l0_6.length c0_6, .int .i64 a0_7, .int .i64 a0_8, .int .i64 a0_9, .int .i64 a0_10, .int .i64 a0_11]] w fun e w' => e = .returned (.bool r) ∧ Below w.heap.size w w' := by
 have hlen : l0_4.length ≤ 1000 ∧ l0_5.length ≤ 1000 ∧ l0_6.length ≤ 1000 := by
  unfold plan_lists.f at h
  split at h
  ·assumption
  ·simp at h
 unfold plan_lists.f at h
 rw [if_pos hlen] at h
 obtain rfl := Option.some.inj h
 clear h
 obtain ⟨n4, n5, n6⟩ := hlen
 unfold listsB
 have C1 := Lib.hid lists1_calls
 have C4 := Lib.hid (fun (g : Nat) (w1 : World) (hb : Below w.heap.size w w1) (hg : g < w1.heap.size) (hc : w1.cell? ⟨g, 0, none⟩ = some (.func (.func 39) #[] #[])) => has_str A0_4 c0_4 l0_4 g w1 hg hc (Kd.C_below hr0_4 hb) n4)
 have C5 := Lib.hid (fun (w1 : World) (hb : Below w.heap.size w w1) => has_int A0_5 c0_5 l0_5 w1 (Kd.C_below hr0_5 hb) n5)
 have C6 := Lib.hid (fun (w1 : World) (hb : Below w.heap.size w w1) => has_agg A0_6 c0_6 l0_6 w1 (Kd.C_below hr0_6 hb) n6)
 have HB := Lib.hid (Below.alloc (Below.refl w.heap.size w) (Nat.le_refl _) (.cells #[.int .i64 a0_0, .int .i64 a0_1, .int .i64 a0_2, .slice A0_3 l0_3.length c0_3, .slice A0_4 l0_4.length c0_4, .slice A0_5 l0_5.length c0_5, .slice A0_6 l0_6.length c0_6, .int .i64 a0_7, .int .i64 a0_8, .int .i64 a0_9, .int .i64 a0_10, .int .i64 a0_11] 40 (0, 0)))
 have z4 := Lib.hid ((blk_cell (blk_new w (.cells #[.int .i64 a0_0, .int .i64 a0_1, .int .i64 a0_2, .slice A0_3 l0_3.length c0_3, .slice A0_4 l0_4.length c0_4, .slice A0_5 l0_5.length c0_5, .slice A0_6 l0_6.length c0_6, .int .i64 a0_7, .int .i64 a0_8, .int .i64 a0_9, .int .i64 a0_10, .int .i64 a0_11] 40 (0, 0))) 4).trans rfl : (w.alloc (.cells #[.int .i64 a0_0, .int .i64 a0_1, .int .i64 a0_2, .slice A0_3 l0_3.length c0_3, .slice A0_4 l0_4.length c0_4, .slice A0_5 l0_5.length c0_5, .slice A0_6 l0_6.length c0_6, .int .i64 a0_7, .int .i64 a0_8, .int .i64 a0_9, .int .i64 a0_10, .int .i64 a0_11] 40 (0, 0))).cell? ⟨w.heap.size, 4, none⟩ = some (.slice A0_4 l0_4.length c0_4))
 have z5 := Lib.hid ((blk_cell (blk_new w (.cells #[.int .i64 a0_0, .int .i64 a0_1, .int .i64 a0_2, .slice A0_3 l0_3.length c0_3, .slice A0_4 l0_4.length c0_4, .slice A0_5 l0_5.length c0_5, .slice A0_6 l0_6.length c0_6, .int .i64 a0_7, .int .i64 a0_8, .int .i64 a0_9, .int .i64 a0_10, .int .i64 a0_11] 40 (0, 0))) 5).trans rfl : (w.alloc (.cells #[.int .i64 a0_0, .int .i64 a0_1, .int .i64 a0_2, .slice A0_3 l0_3.length c0_3, .slice A0_4 l0_4.length c0_4, .slice A0_5 l0_5.length c0_5, .slice A0_6 l0_6.length c0_6, .int .i64 a0_7, .int .i64 a0_8, .int .i64 a0_9, .int .i64 a0_10, .int .i64 a0_11] 40 (0, 0))).cell? ⟨w.heap.size, 5, none⟩ = some (.slice A0_5 l0_5.length c0_5))
 have z6 := Lib.hid ((blk_cell (blk_new w (.cells #[.int .i64 a0_0, .int .i64 a0_1, .int .i64 a0_2, .slice A0_3 l0_3.length c0_3, .slice A0_4 l0_4.length c0_4, .slice A0_5 l0_5.length c0_5, .slice A0_6 l0_6.length c0_6, .int .i64 a0_7, .int .i64 a0_8, .int .i64 a0_9, .int .i64 a0_10, .int .i64 a0_11] 40 (0, 0))) 6).trans rfl : (w.alloc (.cells #[.int .i64 a0_0, .int .i64 a0_1, .int .i64 a0_2, .slice A0_3 l0_3.length c0_3, .slice A0_4 l0_4.length c0_4, .slice A0_5 l0_5.length c0_5, .slice A0_6 l0_6.length c0_6, .int .i64 a0_7, .int .i64 a0_8, .int .i64 a0_9, .int .i64 a0_10, .int .i64 a0_11] 40 (0, 0))).cell? ⟨w.heap.size, 6, none⟩ = some (.slice A0_6 l0_6.length c0_6))
 have hu := Try.underlying40
 clear hr0_3 hc0_3 hr0_4 hc0_4 hr0_5 hc0_5 hr0_6 hc0_6 n4 n5 n6
 generalize hb4 : (l0_4.any fun s => !EvP.nameB s) = b4 at *
 generalize hb5 : (l0_5.any fun c => !colB c) = b5 at *
 generalize hb6 : (l0_6.any fun x => !aggB x) = b6 at *
 clear hb4 hb5 hb6
 go_enter Try.func26, Try.ntmps26
 go_wp2
 go_region_with (first
  | (go_at_call 36; (with_reducible refine (C1.out _).mono ?_); rintro e w1 ⟨g, rfl, hb1, hg1, hc1⟩; have H1 := Lib.hid (join_below HB.out hb1 ⟨rfl, rfl, rfl, rfl⟩ (by simp)); have y4 := (hb1.cell (p := ⟨w.heap.size, 4, none⟩) (by simp)).trans z4.out; have y5 := Lib.hid ((hb1.cell (p := ⟨w.heap.size, 5, none⟩) (by simp)).trans z5.out); have y6 := Lib.hid ((hb1.cell (p := ⟨w.heap.size, 6, none⟩) (by simp)).trans z6.out); have s1 := Lib.hid (show w.heap.size < w1.heap.size from Nat.lt_of_lt_of_le (by simp) hb1.size); clear hb1)
  | (go_at_call 38; (with_reducible refine (C4.out g _ ?hb ?hg ?hc).mono ?_); (case hb => exact H1.out); (case hg => exact hg1); (case hc => exact hc1); rintro e w2 ⟨rfl, hb2⟩; have H2 := Lib.hid (join_below H1.out hb2 ⟨rfl, rfl, rfl, rfl⟩ H1.out.size); have x5 := (hb2.cell (p := ⟨w.heap.size, 5, none⟩) s1.out).trans y5.out; have x6 := (hb2.cell (p := ⟨w.heap.size, 6, none⟩) s1.out).trans y6.out; have s2 := Lib.hid (show w.heap.size < w2.heap.size from Nat.lt_of_lt_of_le s1.out hb2.size); clear hb2))
 all_goals
  cases b4
  ·cases b5
   ·go_wp2_with (first
     | (go_at_call 27; (with_reducible refine (C5.out _ ?hb).mono ?_); (case hb => first | exact H2.out | exact pw_below_drewN H2.out _); rintro e w3 ⟨rfl, hb3⟩; have H3 := Lib.hid (join_below H2.out hb3 ⟨rfl, rfl, rfl, rfl⟩ H2.out.size); have v6 := (hb3.cell (p := ⟨w.heap.size, 6, none⟩) s2.out).trans x6; clear hb3)
     | (go_at_call 41; (with_reducible refine (C6.out _ ?hb).mono ?_); (case hb => first | exact H3.out | exact pw_below_drewN H3.out _); rintro e w4 ⟨rfl, hb4⟩; have H4 := Lib.hid (join_below H3.out hb4 ⟨rfl, rfl, rfl, rfl⟩ H3.out.size); clear hb4))
    go_ret
    exact ⟨by cases b6 <;> rfl, H4.out⟩
   ·go_wp2_with (go_at_call 27; (with_reducible refine (C5.out _ ?hb).mono ?_); (case hb => first | exact H2.out | exact pw_below_drewN H2.out _); rintro e w3 ⟨rfl, hb3⟩; have H3 := Lib.hid (join_below H2.out hb3 ⟨rfl, rfl, rfl, rfl⟩ H2.out.size); clear hb3)
    go_ret
    exact ⟨rfl, H3.out⟩
  ·go_wp2_with fail
   go_ret
   exact ⟨rfl, H2.out⟩
end Go.Proofs.Ytpidiibhgfjemaa.PLh
end
section
namespace Go.Proofs.Ytpidiibhgfjemaa.PLh
end Go.Proofs.Ytpidiibhgfjemaa.PLh
end
section
namespace Go.Proofs.Ytpidiibhgfjemaa.PLo
open Go.Proofs.Ytpidiibhgfjemaa.PLg Go.Proofs.Ytpidiibhgfjemaa.PLh
open Go.RowKit Go.Proofs.YtpidiibhgfjemaaW.PrintWords Go.Proofs.YtpidiibhgfjemaaW.PrintLast Go.Proofs.YtpidiibhgfjemaaW.PrintMore
attribute [local go_sem] max2_int min2_int max_two min_two max_three min_three max_four min_four
set_option linter.unusedVariables false
set_option linter.unusedSimpArgs false
end Go.Proofs.Ytpidiibhgfjemaa.PLo
end
section
namespace Go.Proofs.Ytpidiibhgfjemaa.PLo
open Go.Proofs.Ytpidiibhgfjemaa.PLg Go.Proofs.Ytpidiibhgfjemaa.PLh
open Go.RowKit Go.Proofs.YtpidiibhgfjemaaW.PrintWords Go.Proofs.YtpidiibhgfjemaaW.PrintLast Go.Proofs.YtpidiibhgfjemaaW.PrintMore
attribute [local go_sem] max2_int min2_int max_two min_two max_three min_three max_four min_four
set_option linter.unusedVariables false
set_option linter.unusedSimpArgs false
def plan_own.j0 : Nat → Int → Bool → Int → Int → Int → List (List (S79)) → List ByteArray → List Int → List (S43) → Int → Int → Int → Int → Int → Option (Bool)
 | 0, _, _, _, _, _, _, _, _, _, _, _, _, _, _ => none
 | k + 1, x4, x5, x369000, x369001, x369002, x369003, x369004, x369005, x369006, x369007, x369008, x369009, x369010, x369011 => if x5 = true then (some ((x369003.length : Int) == 1)) else (if x4 = 3 then (if (x369003.length : Int) > 0 then (some ((x369004.length : Int) == (x369003.length : Int))) else (some false)) else (if x4 = 7 then (if x369010 ≥ 1 then (some (decide (x369010 ≤ 1099511627776))) else (some false)) else (if x4 = 8 then ((window_Check.f x369007 x369008 x369009).bind fun t369 => (some (t369 == 0))) else (if x4 = 9 then ((window_Check.f x369007 x369008 x369009).bind fun t370 => (if t370 = 0 then (if x369010 ≥ 1 then (if x369010 ≤ 64 then ((plan_col.f x369011).bind fun t371 => (some t371)) else (some false)) else (some false)) else (some false))) else (some true)))))
def plan_own.f (k : Nat) (a0_0 : Int) (a0_1 : Int) (a0_2 : Int) (l0_3 : List (List (S79))) (l0_4 : List ByteArray) (l0_5 : List Int) (l0_6 : List (S43)) (a0_7 : Int) (a0_8 : Int) (a0_9 : Int) (a0_10 : Int) (a0_11 : Int) : Option (Bool) := if a0_0 = 2 then (plan_own.j0 k a0_0 (a0_0 == 2) a0_0 a0_1 a0_2 l0_3 l0_4 l0_5 l0_6 a0_7 a0_8 a0_9 a0_10 a0_11) else (if a0_0 = 5 then (plan_own.j0 k a0_0 (a0_0 == 5) a0_0 a0_1 a0_2 l0_3 l0_4 l0_5 l0_6 a0_7 a0_8 a0_9 a0_10 a0_11) else (plan_own.j0 k a0_0 (a0_0 == 6) a0_0 a0_1 a0_2 l0_3 l0_4 l0_5 l0_6 a0_7 a0_8 a0_9 a0_10 a0_11))
theorem plan_own.mono_l : ∀ k, (∀ y0 y1 y2 y3 y4 y5 y6 y7 y8 y9 y10 y11 y12 y13, LeO (plan_own.j0 k y0 y1 y2 y3 y4 y5 y6 y7 y8 y9 y10 y11 y12 y13) (plan_own.j0 (k + 1) y0 y1 y2 y3 y4 y5 y6 y7 y8 y9 y10 y11 y12 y13))
 | 0 => fun _ _ _ _ _ _ _ _ _ _ _ _ _ _ r h => by simp [plan_own.j0] at h
 | k + 1 => by
  have ih0 := plan_own.mono_l k
  ·intro y0 y1 y2 y3 y4 y5 y6 y7 y8 y9 y10 y11 y12 y13
   unfold plan_own.j0
   repeat' first
   | (with_reducible exact ih0 _ _ _ _ _ _ _ _ _ _ _ _ _ _)
   | (with_reducible exact LeO.refl _)
   | (with_reducible exact LeO.none _)
   | (with_reducible refine LeO.ite ?_ ?_)
   | (with_reducible refine LeO.bind ?_ (fun _ => ?_))
   | exact ih0 _ _ _ _ _ _ _ _ _ _ _ _ _ _
   | exact LeO.none _
   | refine LeO.ite ?_ ?_
   | refine LeO.bind ?_ (fun _ => ?_)
theorem plan_own.mono : ∀ a0 a1 a2 a3 a4 a5 a6 a7 a8 a9 a10 a11 k, LeO (plan_own.f k a0 a1 a2 a3 a4 a5 a6 a7 a8 a9 a10 a11) (plan_own.f (k + 1) a0 a1 a2 a3 a4 a5 a6 a7 a8 a9 a10 a11) := by
 intro a0 a1 a2 a3 a4 a5 a6 a7 a8 a9 a10 a11 k
 have ih0 := plan_own.mono_l k
 unfold plan_own.f
 repeat' first
   | (with_reducible exact ih0 _ _ _ _ _ _ _ _ _ _ _ _ _ _)
   | (with_reducible exact LeO.refl _)
   | (with_reducible exact LeO.none _)
   | (with_reducible refine LeO.ite ?_ ?_)
   | (with_reducible refine LeO.bind ?_ (fun _ => ?_))
   | exact ih0 _ _ _ _ _ _ _ _ _ _ _ _ _ _
   | exact LeO.none _
   | refine LeO.ite ?_ ?_
   | refine LeO.bind ?_ (fun _ => ?_)
set_option maxHeartbeats 8000000 in
set_option maxRecDepth 100000 in
theorem plan_own.calls (k : Nat) (a0_0 : Int) (a0_1 : Int) (a0_2 : Int) (A0_3 : Option Addr) (c0_3 : Nat) (l0_3 : List (List (S79))) (A0_4 : Option Addr) (c0_4 : Nat) (l0_4 : List ByteArray) (A0_5 : Option Addr) (c0_5 : Nat) (l0_5 : List Int) (A0_6 : Option Addr) (c0_6 : Nat) (l0_6 : List (S43)) (a0_7 : Int) (a0_8 : Int) (a0_9 : Int) (a0_10 : Int) (a0_11 : Int) (r : Bool) (w : World) (hr0_3 : Kd.C (Kd.slice 79 k79) w A0_3 l0_3.length l0_3) (hc0_3 : l0_3.length ≤ c0_3) (hr0_4 : Kd.C Kd.string w A0_4 l0_4.length l0_4) (hc0_4 : l0_4.length ≤ c0_4) (hr0_5 : Kd.C (Kd.int .i64) w A0_5 l0_5.length l0_5) (hc0_5 : l0_5.length ≤ c0_5) (hr0_6 : Kd.C k43 w A0_6 l0_6.length l0_6) (hc0_6 : l0_6.length ≤ c0_6) (h : plan_own.f k a0_0 a0_1 a0_2 l0_3 l0_4 l0_5 l0_6 a0_7 a0_8 a0_9 a0_10 a0_11 = some r) :
  Calls Try.prog 25 #[.agg #[.int .i64 a0_0, .int .i64 a0_1, .int .i64 a0_2, .slice A0_3 l0_3.length c0_3, .slice A0_4 l0_4.length c0_4, .slice A0_5 l0_5.length c0_5, .slice A0_6 l0_6.length c0_6, .int .i64 a0_7, .int .i64 a0_8, .int .i64 a0_9, .int .i64 a0_10, .int .i64 a0_11]] w fun e w' => e = .returned (.bool r) ∧ Below w.heap.size w w' := by
 have hu40 := Try.underlying40
 have hu34 := Try.underlying34
 have HR0_3 := Aside0.mk hr0_3
 have HC0_3 := Aside0.mk hc0_3
 clear hr0_3 hc0_3
 have HR0_4 := Aside0.mk hr0_4
 have HC0_4 := Aside0.mk hc0_4
 clear hr0_4 hc0_4
 have HR0_5 := Aside0.mk hr0_5
 have HC0_5 := Aside0.mk hc0_5
 clear hr0_5 hc0_5
 have HR0_6 := Aside0.mk hr0_6
 have HC0_6 := Aside0.mk hc0_6
 clear hr0_6 hc0_6
 have HB := Aside0.mk (Below.refl w.heap.size w)
 have H : (if a0_0 = 2 then (plan_own.j0 k a0_0 (a0_0 == 2) a0_0 a0_1 a0_2 l0_3 l0_4 l0_5 l0_6 a0_7 a0_8 a0_9 a0_10 a0_11) else (if a0_0 = 5 then (plan_own.j0 k a0_0 (a0_0 == 5) a0_0 a0_1 a0_2 l0_3 l0_4 l0_5 l0_6 a0_7 a0_8 a0_9 a0_10 a0_11) else (plan_own.j0 k a0_0 (a0_0 == 6) a0_0 a0_1 a0_2 l0_3 l0_4 l0_5 l0_6 a0_7 a0_8 a0_9 a0_10 a0_11))) = some r := h
 clear h
 have HC2 := Aside0.mk H
 clear H
 go_enter Try.func25, Try.ntmps25
 go_upto_if 5 with (first | ((with_reducible refine gate_dst (N := 1) rfl ?_); (try (refine gate_guard (by rfl) ?_; dsimp only)); refine box_event ?hg (N := 1) ?hd (cs := #[.int .i64 a0_0, .int .i64 a0_1, .int .i64 a0_2, .slice A0_3 l0_3.length c0_3, .slice A0_4 l0_4.length c0_4, .slice A0_5 l0_5.length c0_5, .slice A0_6 l0_6.length c0_6, .int .i64 a0_7, .int .i64 a0_8, .int .i64 a0_9, .int .i64 a0_10, .int .i64 a0_11]) (t := 40) ?hr ?_; (case hd => rfl); (case hg => rfl); (case hr => first | (go_simp; done) | (go_simp; rfl)); intro gb368 hg w3 hbox hb; have n0_ := Aside0.mk (below_step (by repeat (first | (with_reducible first | exact HB.out | apply below_alloc | apply pw_below_drewN | apply below_drew1) | exact HB.out)) hb); have n1_ := Aside0.mk (hbox); have n2_ := Aside0.mk ((by rw [hg]; exact (below_size (by repeat (first | (with_reducible first | exact HB.out | apply below_alloc | apply pw_below_drewN | apply below_drew1) | exact HB.out))) : w.heap.size ≤ gb368)); have n3_ := Aside0.mk ((by rw [hg]; exact (below_size (by repeat (first | (with_reducible first | exact HB.out | apply below_alloc | apply pw_below_drewN | apply below_drew1) | exact HB.out))) : w.heap.size ≤ gb368)); clear HB; have HB := n0_; have BK368 := n1_; have GW368 := n2_; have GE368 := n3_; clear n0_ n1_ n2_ n3_; clear hb hbox hg; have hcz4_0 : w3.cell? ⟨gb368, 0, none⟩ = some (.int .i64 a0_0) := (blk_cell BK368.out 0).trans rfl; have hcz4_1 : w3.cell? ⟨gb368, 1, none⟩ = some (.int .i64 a0_1) := (blk_cell BK368.out 1).trans rfl; have hcz4_2 : w3.cell? ⟨gb368, 2, none⟩ = some (.int .i64 a0_2) := (blk_cell BK368.out 2).trans rfl; have hcz4_3 : w3.cell? ⟨gb368, 3, none⟩ = some (.slice A0_3 l0_3.length c0_3) := (blk_cell BK368.out 3).trans rfl; have hcz4_4 : w3.cell? ⟨gb368, 4, none⟩ = some (.slice A0_4 l0_4.length c0_4) := (blk_cell BK368.out 4).trans rfl; have hcz4_5 : w3.cell? ⟨gb368, 5, none⟩ = some (.slice A0_5 l0_5.length c0_5) := (blk_cell BK368.out 5).trans rfl; have hcz4_6 : w3.cell? ⟨gb368, 6, none⟩ = some (.slice A0_6 l0_6.length c0_6) := (blk_cell BK368.out 6).trans rfl; have hcz4_7 : w3.cell? ⟨gb368, 7, none⟩ = some (.int .i64 a0_7) := (blk_cell BK368.out 7).trans rfl; have hcz4_8 : w3.cell? ⟨gb368, 8, none⟩ = some (.int .i64 a0_8) := (blk_cell BK368.out 8).trans rfl; have hcz4_9 : w3.cell? ⟨gb368, 9, none⟩ = some (.int .i64 a0_9) := (blk_cell BK368.out 9).trans rfl; have hcz4_10 : w3.cell? ⟨gb368, 10, none⟩ = some (.int .i64 a0_10) := (blk_cell BK368.out 10).trans rfl; have hcz4_11 : w3.cell? ⟨gb368, 11, none⟩ = some (.int .i64 a0_11) := (blk_cell BK368.out 11).trans rfl; have hfz4_0 := blk_frozen BK368.out 0; have hfz4_1 := blk_frozen BK368.out 1; have hfz4_2 := blk_frozen BK368.out 2; have hfz4_3 := blk_frozen BK368.out 3; have hfz4_4 := blk_frozen BK368.out 4; have hfz4_5 := blk_frozen BK368.out 5; have hfz4_6 := blk_frozen BK368.out 6; have hfz4_7 := blk_frozen BK368.out 7; have hfz4_8 := blk_frozen BK368.out 8; have hfz4_9 := blk_frozen BK368.out 9; have hfz4_10 := blk_frozen BK368.out 10; have hfz4_11 := blk_frozen BK368.out 11))
 (try simp only [Act.put, List.setIfInBounds_toArray, List.set_cons_zero, List.set_cons_succ])
 go_cut [5] (fun v5 wc => ∃ (kq : Nat) (x5_1 : Bool), v5 = .bool x5_1 ∧ Aside0 (plan_own.j0 kq a0_0 x5_1 a0_0 a0_1 a0_2 l0_3 l0_4 l0_5 l0_6 a0_7 a0_8 a0_9 a0_10 a0_11 = some r) ∧ Aside0 (kq ≤ k) ∧ Aside0 (wc.heap[gb368]? = some (.cells #[.int .i64 a0_0, .int .i64 a0_1, .int .i64 a0_2, (.slice A0_3 l0_3.length c0_3), (.slice A0_4 l0_4.length c0_4), (.slice A0_5 l0_5.length c0_5), (.slice A0_6 l0_6.length c0_6), .int .i64 a0_7, .int .i64 a0_8, .int .i64 a0_9, .int .i64 a0_10, .int .i64 a0_11] 40 (0, 0))) ∧ Aside0 (Below w.heap.size w wc))
 case first =>
  have H := HC2.out
  clear HC2
  by_cases c5 : a0_0 = 2
  ·rw [if_pos c5] at H
   have c5b0 : (a0_0 == 2) = true := beq_iff_eq.mpr c5
   have c5b1 : (a0_0 != 2) = false := bne_eq_false_iff_eq.mpr c5
   clear c5
   (first | rw [c5b0] | (simp only [i64_w, i32_w]; rw [c5b0]) | skip)
   have H' := Aside0.mk H
   clear H
   go_wp2
   go_meet
   case rel => exact ⟨_, ((a0_0 == 2)), (by first | rfl | (simp; done) | (simp [*]; done)), H', ⟨by first | omega | exact Nat.le_refl _⟩, ⟨by (with_reducible repeat (first | refine blk_drewN ?_ _ | refine blk_drew ?_ | refine blk_alloc ?_ _)); exact BK368.out⟩, ⟨by repeat (first | (with_reducible first | exact HB.out | apply below_alloc | apply pw_below_drewN | apply below_drew1 | refine below_set ?_ GE368.out) | exact HB.out)⟩⟩
  ·rw [if_neg c5] at H
   have c5b0 : (a0_0 == 2) = false := beq_eq_false_iff_ne.mpr c5
   have c5b1 : (a0_0 != 2) = true := bne_iff_ne.mpr c5
   (first | rw [c5b0] | (simp only [i64_w, i32_w]; rw [c5b0]) | skip)
   by_cases c6 : a0_0 = 5
   ·rw [if_pos c6] at H
    have c6b0 : (a0_0 == 5) = true := beq_iff_eq.mpr c6
    have c6b1 : (a0_0 != 5) = false := bne_eq_false_iff_eq.mpr c6
    clear c6
    have H' := Aside0.mk H
    clear H
    go_wp2
    go_meet
    case rel => exact ⟨_, ((a0_0 == 5)), (by first | rfl | (simp; done) | (simp [*]; done)), H', ⟨by first | omega | exact Nat.le_refl _⟩, ⟨by (with_reducible repeat (first | refine blk_drewN ?_ _ | refine blk_drew ?_ | refine blk_alloc ?_ _)); exact BK368.out⟩, ⟨by repeat (first | (with_reducible first | exact HB.out | apply below_alloc | apply pw_below_drewN | apply below_drew1 | refine below_set ?_ GE368.out) | exact HB.out)⟩⟩
   ·rw [if_neg c6] at H
    have c6b0 : (a0_0 == 5) = false := beq_eq_false_iff_ne.mpr c6
    have c6b1 : (a0_0 != 5) = true := bne_iff_ne.mpr c6
    have H' := Aside0.mk H
    clear H
    go_wp2
    go_meet
    case rel => exact ⟨_, ((a0_0 == 6)), (by first | rfl | (simp; done) | (simp [*]; done)), H', ⟨by first | omega | exact Nat.le_refl _⟩, ⟨by (with_reducible repeat (first | refine blk_drewN ?_ _ | refine blk_drew ?_ | refine blk_alloc ?_ _)); exact BK368.out⟩, ⟨by repeat (first | (with_reducible first | exact HB.out | apply below_alloc | apply pw_below_drewN | apply below_drew1 | refine below_set ?_ GE368.out) | exact HB.out)⟩⟩
 case rest =>
  clear HC2
  try clear c2
  try clear p2
  try clear c5
  try clear c5b0
  try clear c5b1
  try clear c6
  try clear c6b0
  try clear c6b1
  try clear hcz4_0
  try clear hcz4_1
  try clear hcz4_10
  try clear hcz4_11
  try clear hcz4_2
  try clear hcz4_3
  try clear hcz4_4
  try clear hcz4_5
  try clear hcz4_6
  try clear hcz4_7
  try clear hcz4_8
  try clear hcz4_9
  try clear hfz4_0
  try clear hfz4_1
  try clear hfz4_10
  try clear hfz4_11
  try clear hfz4_2
  try clear hfz4_3
  try clear hfz4_4
  try clear hfz4_5
  try clear hfz4_6
  try clear hfz4_7
  try clear hfz4_8
  try clear hfz4_9
  obtain ⟨kq, x5_1, rfl, HA, HJ1, BK368, HB⟩ := hcut
  cases kq with
  | zero => exact absurd HA.out (by simp [plan_own.j0])
  | succ kj1 =>
   have H := HA.out
   clear HA
   simp only [plan_own.j0] at H
   by_cases c7 : x5_1 = true
   ·subst c7
    have H1 : (some ((l0_3.length : Int) == 1)) = some r := by rw [if_pos rfl] at H; exact H
    clear H
    have H := H1
    clear H1
    obtain rfl := Option.some.inj H
    have hcz8_0 : wc.cell? ⟨gb368, 0, none⟩ = some (.int .i64 a0_0) := (blk_cell BK368.out 0).trans rfl
    have hcz8_1 : wc.cell? ⟨gb368, 1, none⟩ = some (.int .i64 a0_1) := (blk_cell BK368.out 1).trans rfl
    have hcz8_2 : wc.cell? ⟨gb368, 2, none⟩ = some (.int .i64 a0_2) := (blk_cell BK368.out 2).trans rfl
    have hcz8_3 : wc.cell? ⟨gb368, 3, none⟩ = some (.slice A0_3 l0_3.length c0_3) := (blk_cell BK368.out 3).trans rfl
    have hcz8_4 : wc.cell? ⟨gb368, 4, none⟩ = some (.slice A0_4 l0_4.length c0_4) := (blk_cell BK368.out 4).trans rfl
    have hcz8_5 : wc.cell? ⟨gb368, 5, none⟩ = some (.slice A0_5 l0_5.length c0_5) := (blk_cell BK368.out 5).trans rfl
    have hcz8_6 : wc.cell? ⟨gb368, 6, none⟩ = some (.slice A0_6 l0_6.length c0_6) := (blk_cell BK368.out 6).trans rfl
    have hcz8_7 : wc.cell? ⟨gb368, 7, none⟩ = some (.int .i64 a0_7) := (blk_cell BK368.out 7).trans rfl
    have hcz8_8 : wc.cell? ⟨gb368, 8, none⟩ = some (.int .i64 a0_8) := (blk_cell BK368.out 8).trans rfl
    have hcz8_9 : wc.cell? ⟨gb368, 9, none⟩ = some (.int .i64 a0_9) := (blk_cell BK368.out 9).trans rfl
    have hcz8_10 : wc.cell? ⟨gb368, 10, none⟩ = some (.int .i64 a0_10) := (blk_cell BK368.out 10).trans rfl
    have hcz8_11 : wc.cell? ⟨gb368, 11, none⟩ = some (.int .i64 a0_11) := (blk_cell BK368.out 11).trans rfl
    have hfz8_0 := blk_frozen BK368.out 0
    have hfz8_1 := blk_frozen BK368.out 1
    have hfz8_2 := blk_frozen BK368.out 2
    have hfz8_3 := blk_frozen BK368.out 3
    have hfz8_4 := blk_frozen BK368.out 4
    have hfz8_5 := blk_frozen BK368.out 5
    have hfz8_6 := blk_frozen BK368.out 6
    have hfz8_7 := blk_frozen BK368.out 7
    have hfz8_8 := blk_frozen BK368.out 8
    have hfz8_9 := blk_frozen BK368.out 9
    have hfz8_10 := blk_frozen BK368.out 10
    have hfz8_11 := blk_frozen BK368.out 11
    go_wp2
    go_ret
    exact ⟨by first | rfl | (simp [errW_none, errW_some] <;> rfl) | (simp [*, errW_none, errW_some] <;> rfl), by repeat (first | (with_reducible first | exact HB.out | apply below_alloc | apply pw_below_drewN | apply below_drew1 | refine below_set ?_ GE368.out) | exact HB.out)⟩
   ·replace c7 := Bool.eq_false_iff.mpr c7
    subst c7
    have H1 : (if a0_0 = 3 then (if (l0_3.length : Int) > 0 then (some ((l0_4.length : Int) == (l0_3.length : Int))) else (some false)) else (if a0_0 = 7 then (if a0_10 ≥ 1 then (some (decide (a0_10 ≤ 1099511627776))) else (some false)) else (if a0_0 = 8 then ((window_Check.f a0_7 a0_8 a0_9).bind fun t369 => (some (t369 == 0))) else (if a0_0 = 9 then ((window_Check.f a0_7 a0_8 a0_9).bind fun t370 => (if t370 = 0 then (if a0_10 ≥ 1 then (if a0_10 ≤ 64 then ((plan_col.f a0_11).bind fun t371 => (some t371)) else (some false)) else (some false)) else (some false))) else (some true))))) = some r := by rw [if_neg (show ¬ (false = true) by decide)] at H; exact H
    clear H
    have H := H1
    clear H1
    by_cases c9 : a0_0 = 3
    ·rw [if_pos c9] at H
     have c9b0 : (a0_0 == 3) = true := beq_iff_eq.mpr c9
     have c9b1 : (a0_0 != 3) = false := bne_eq_false_iff_eq.mpr c9
     clear c9
     by_cases c10 : (l0_3.length : Int) > 0
     ·rw [if_pos c10] at H
      have c10b0 : decide (0 < (l0_3.length : Int)) = true := decide_eq_true c10
      have c10b1 : decide (0 < l0_3.length) = true := decide_eq_true (by omega)
      clear c10
      obtain rfl := Option.some.inj H
      have hcz11_0 : wc.cell? ⟨gb368, 0, none⟩ = some (.int .i64 a0_0) := (blk_cell BK368.out 0).trans rfl
      have hcz11_1 : wc.cell? ⟨gb368, 1, none⟩ = some (.int .i64 a0_1) := (blk_cell BK368.out 1).trans rfl
      have hcz11_2 : wc.cell? ⟨gb368, 2, none⟩ = some (.int .i64 a0_2) := (blk_cell BK368.out 2).trans rfl
      have hcz11_3 : wc.cell? ⟨gb368, 3, none⟩ = some (.slice A0_3 l0_3.length c0_3) := (blk_cell BK368.out 3).trans rfl
      have hcz11_4 : wc.cell? ⟨gb368, 4, none⟩ = some (.slice A0_4 l0_4.length c0_4) := (blk_cell BK368.out 4).trans rfl
      have hcz11_5 : wc.cell? ⟨gb368, 5, none⟩ = some (.slice A0_5 l0_5.length c0_5) := (blk_cell BK368.out 5).trans rfl
      have hcz11_6 : wc.cell? ⟨gb368, 6, none⟩ = some (.slice A0_6 l0_6.length c0_6) := (blk_cell BK368.out 6).trans rfl
      have hcz11_7 : wc.cell? ⟨gb368, 7, none⟩ = some (.int .i64 a0_7) := (blk_cell BK368.out 7).trans rfl
      have hcz11_8 : wc.cell? ⟨gb368, 8, none⟩ = some (.int .i64 a0_8) := (blk_cell BK368.out 8).trans rfl
      have hcz11_9 : wc.cell? ⟨gb368, 9, none⟩ = some (.int .i64 a0_9) := (blk_cell BK368.out 9).trans rfl
      have hcz11_10 : wc.cell? ⟨gb368, 10, none⟩ = some (.int .i64 a0_10) := (blk_cell BK368.out 10).trans rfl
      have hcz11_11 : wc.cell? ⟨gb368, 11, none⟩ = some (.int .i64 a0_11) := (blk_cell BK368.out 11).trans rfl
      have hfz11_0 := blk_frozen BK368.out 0
      have hfz11_1 := blk_frozen BK368.out 1
      have hfz11_2 := blk_frozen BK368.out 2
      have hfz11_3 := blk_frozen BK368.out 3
      have hfz11_4 := blk_frozen BK368.out 4
      have hfz11_5 := blk_frozen BK368.out 5
      have hfz11_6 := blk_frozen BK368.out 6
      have hfz11_7 := blk_frozen BK368.out 7
      have hfz11_8 := blk_frozen BK368.out 8
      have hfz11_9 := blk_frozen BK368.out 9
      have hfz11_10 := blk_frozen BK368.out 10
      have hfz11_11 := blk_frozen BK368.out 11
      go_wp2
      go_ret
      exact ⟨by first | rfl | (simp [errW_none, errW_some] <;> rfl) | (simp [*, errW_none, errW_some] <;> rfl), by repeat (first | (with_reducible first | exact HB.out | apply below_alloc | apply pw_below_drewN | apply below_drew1 | refine below_set ?_ GE368.out) | exact HB.out)⟩
     ·rw [if_neg c10] at H
      have c10b0 : decide (0 < (l0_3.length : Int)) = false := decide_eq_false c10
      have c10b1 : decide (0 < l0_3.length) = false := decide_eq_false (by omega)
      clear c10
      obtain rfl := Option.some.inj H
      have hcz12_0 : wc.cell? ⟨gb368, 0, none⟩ = some (.int .i64 a0_0) := (blk_cell BK368.out 0).trans rfl
      have hcz12_1 : wc.cell? ⟨gb368, 1, none⟩ = some (.int .i64 a0_1) := (blk_cell BK368.out 1).trans rfl
      have hcz12_2 : wc.cell? ⟨gb368, 2, none⟩ = some (.int .i64 a0_2) := (blk_cell BK368.out 2).trans rfl
      have hcz12_3 : wc.cell? ⟨gb368, 3, none⟩ = some (.slice A0_3 l0_3.length c0_3) := (blk_cell BK368.out 3).trans rfl
      have hcz12_4 : wc.cell? ⟨gb368, 4, none⟩ = some (.slice A0_4 l0_4.length c0_4) := (blk_cell BK368.out 4).trans rfl
      have hcz12_5 : wc.cell? ⟨gb368, 5, none⟩ = some (.slice A0_5 l0_5.length c0_5) := (blk_cell BK368.out 5).trans rfl
      have hcz12_6 : wc.cell? ⟨gb368, 6, none⟩ = some (.slice A0_6 l0_6.length c0_6) := (blk_cell BK368.out 6).trans rfl
      have hcz12_7 : wc.cell? ⟨gb368, 7, none⟩ = some (.int .i64 a0_7) := (blk_cell BK368.out 7).trans rfl
      have hcz12_8 : wc.cell? ⟨gb368, 8, none⟩ = some (.int .i64 a0_8) := (blk_cell BK368.out 8).trans rfl
      have hcz12_9 : wc.cell? ⟨gb368, 9, none⟩ = some (.int .i64 a0_9) := (blk_cell BK368.out 9).trans rfl
      have hcz12_10 : wc.cell? ⟨gb368, 10, none⟩ = some (.int .i64 a0_10) := (blk_cell BK368.out 10).trans rfl
      have hcz12_11 : wc.cell? ⟨gb368, 11, none⟩ = some (.int .i64 a0_11) := (blk_cell BK368.out 11).trans rfl
      have hfz12_0 := blk_frozen BK368.out 0
      have hfz12_1 := blk_frozen BK368.out 1
      have hfz12_2 := blk_frozen BK368.out 2
      have hfz12_3 := blk_frozen BK368.out 3
      have hfz12_4 := blk_frozen BK368.out 4
      have hfz12_5 := blk_frozen BK368.out 5
      have hfz12_6 := blk_frozen BK368.out 6
      have hfz12_7 := blk_frozen BK368.out 7
      have hfz12_8 := blk_frozen BK368.out 8
      have hfz12_9 := blk_frozen BK368.out 9
      have hfz12_10 := blk_frozen BK368.out 10
      have hfz12_11 := blk_frozen BK368.out 11
      go_wp2
      go_ret
      exact ⟨by first | rfl | (simp [errW_none, errW_some] <;> rfl) | (simp [*, errW_none, errW_some] <;> rfl), by repeat (first | (with_reducible first | exact HB.out | apply below_alloc | apply pw_below_drewN | apply below_drew1 | refine below_set ?_ GE368.out) | exact HB.out)⟩
    ·rw [if_neg c9] at H
     have c9b0 : (a0_0 == 3) = false := beq_eq_false_iff_ne.mpr c9
     have c9b1 : (a0_0 != 3) = true := bne_iff_ne.mpr c9
     by_cases c13 : a0_0 = 7
     ·rw [if_pos c13] at H
      have c13b0 : (a0_0 == 7) = true := beq_iff_eq.mpr c13
      have c13b1 : (a0_0 != 7) = false := bne_eq_false_iff_eq.mpr c13
      clear c13
      by_cases c14 : a0_10 ≥ 1
      ·rw [if_pos c14] at H
       have c14b0 : decide (1 ≤ a0_10) = true := decide_eq_true c14
       clear c14
       obtain rfl := Option.some.inj H
       have hcz15_0 : wc.cell? ⟨gb368, 0, none⟩ = some (.int .i64 a0_0) := (blk_cell BK368.out 0).trans rfl
       have hcz15_1 : wc.cell? ⟨gb368, 1, none⟩ = some (.int .i64 a0_1) := (blk_cell BK368.out 1).trans rfl
       have hcz15_2 : wc.cell? ⟨gb368, 2, none⟩ = some (.int .i64 a0_2) := (blk_cell BK368.out 2).trans rfl
       have hcz15_3 : wc.cell? ⟨gb368, 3, none⟩ = some (.slice A0_3 l0_3.length c0_3) := (blk_cell BK368.out 3).trans rfl
       have hcz15_4 : wc.cell? ⟨gb368, 4, none⟩ = some (.slice A0_4 l0_4.length c0_4) := (blk_cell BK368.out 4).trans rfl
       have hcz15_5 : wc.cell? ⟨gb368, 5, none⟩ = some (.slice A0_5 l0_5.length c0_5) := (blk_cell BK368.out 5).trans rfl
       have hcz15_6 : wc.cell? ⟨gb368, 6, none⟩ = some (.slice A0_6 l0_6.length c0_6) := (blk_cell BK368.out 6).trans rfl
       have hcz15_7 : wc.cell? ⟨gb368, 7, none⟩ = some (.int .i64 a0_7) := (blk_cell BK368.out 7).trans rfl
       have hcz15_8 : wc.cell? ⟨gb368, 8, none⟩ = some (.int .i64 a0_8) := (blk_cell BK368.out 8).trans rfl
       have hcz15_9 : wc.cell? ⟨gb368, 9, none⟩ = some (.int .i64 a0_9) := (blk_cell BK368.out 9).trans rfl
       have hcz15_10 : wc.cell? ⟨gb368, 10, none⟩ = some (.int .i64 a0_10) := (blk_cell BK368.out 10).trans rfl
       have hcz15_11 : wc.cell? ⟨gb368, 11, none⟩ = some (.int .i64 a0_11) := (blk_cell BK368.out 11).trans rfl
       have hfz15_0 := blk_frozen BK368.out 0
       have hfz15_1 := blk_frozen BK368.out 1
       have hfz15_2 := blk_frozen BK368.out 2
       have hfz15_3 := blk_frozen BK368.out 3
       have hfz15_4 := blk_frozen BK368.out 4
       have hfz15_5 := blk_frozen BK368.out 5
       have hfz15_6 := blk_frozen BK368.out 6
       have hfz15_7 := blk_frozen BK368.out 7
       have hfz15_8 := blk_frozen BK368.out 8
       have hfz15_9 := blk_frozen BK368.out 9
       have hfz15_10 := blk_frozen BK368.out 10
       have hfz15_11 := blk_frozen BK368.out 11
       go_wp2
       go_ret
       exact ⟨by first | rfl | (simp [errW_none, errW_some] <;> rfl) | (simp [*, errW_none, errW_some] <;> rfl), by repeat (first | (with_reducible first | exact HB.out | apply below_alloc | apply pw_below_drewN | apply below_drew1 | refine below_set ?_ GE368.out) | exact HB.out)⟩
      ·rw [if_neg c14] at H
       have c14b0 : decide (1 ≤ a0_10) = false := decide_eq_false c14
       clear c14
       obtain rfl := Option.some.inj H
       have hcz16_0 : wc.cell? ⟨gb368, 0, none⟩ = some (.int .i64 a0_0) := (blk_cell BK368.out 0).trans rfl
       have hcz16_1 : wc.cell? ⟨gb368, 1, none⟩ = some (.int .i64 a0_1) := (blk_cell BK368.out 1).trans rfl
       have hcz16_2 : wc.cell? ⟨gb368, 2, none⟩ = some (.int .i64 a0_2) := (blk_cell BK368.out 2).trans rfl
       have hcz16_3 : wc.cell? ⟨gb368, 3, none⟩ = some (.slice A0_3 l0_3.length c0_3) := (blk_cell BK368.out 3).trans rfl
       have hcz16_4 : wc.cell? ⟨gb368, 4, none⟩ = some (.slice A0_4 l0_4.length c0_4) := (blk_cell BK368.out 4).trans rfl
       have hcz16_5 : wc.cell? ⟨gb368, 5, none⟩ = some (.slice A0_5 l0_5.length c0_5) := (blk_cell BK368.out 5).trans rfl
       have hcz16_6 : wc.cell? ⟨gb368, 6, none⟩ = some (.slice A0_6 l0_6.length c0_6) := (blk_cell BK368.out 6).trans rfl
       have hcz16_7 : wc.cell? ⟨gb368, 7, none⟩ = some (.int .i64 a0_7) := (blk_cell BK368.out 7).trans rfl
       have hcz16_8 : wc.cell? ⟨gb368, 8, none⟩ = some (.int .i64 a0_8) := (blk_cell BK368.out 8).trans rfl
       have hcz16_9 : wc.cell? ⟨gb368, 9, none⟩ = some (.int .i64 a0_9) := (blk_cell BK368.out 9).trans rfl
       have hcz16_10 : wc.cell? ⟨gb368, 10, none⟩ = some (.int .i64 a0_10) := (blk_cell BK368.out 10).trans rfl
       have hcz16_11 : wc.cell? ⟨gb368, 11, none⟩ = some (.int .i64 a0_11) := (blk_cell BK368.out 11).trans rfl
       have hfz16_0 := blk_frozen BK368.out 0
       have hfz16_1 := blk_frozen BK368.out 1
       have hfz16_2 := blk_frozen BK368.out 2
       have hfz16_3 := blk_frozen BK368.out 3
       have hfz16_4 := blk_frozen BK368.out 4
       have hfz16_5 := blk_frozen BK368.out 5
       have hfz16_6 := blk_frozen BK368.out 6
       have hfz16_7 := blk_frozen BK368.out 7
       have hfz16_8 := blk_frozen BK368.out 8
       have hfz16_9 := blk_frozen BK368.out 9
       have hfz16_10 := blk_frozen BK368.out 10
       have hfz16_11 := blk_frozen BK368.out 11
       go_wp2
       go_ret
       exact ⟨by first | rfl | (simp [errW_none, errW_some] <;> rfl) | (simp [*, errW_none, errW_some] <;> rfl), by repeat (first | (with_reducible first | exact HB.out | apply below_alloc | apply pw_below_drewN | apply below_drew1 | refine below_set ?_ GE368.out) | exact HB.out)⟩
     ·rw [if_neg c13] at H
      have c13b0 : (a0_0 == 7) = false := beq_eq_false_iff_ne.mpr c13
      have c13b1 : (a0_0 != 7) = true := bne_iff_ne.mpr c13
      by_cases c17 : a0_0 = 8
      ·rw [if_pos c17] at H
       have c17b0 : (a0_0 == 8) = true := beq_iff_eq.mpr c17
       have c17b1 : (a0_0 != 8) = false := bne_eq_false_iff_eq.mpr c17
       clear c17
       replace H := Option.bind_eq_some_iff.mp H
       obtain ⟨t369, A180, H⟩ := H
       replace H : (some (t369 == 0)) = some r := H
       have A18 := Aside0.mk A180
       clear A180
       obtain rfl := Option.some.inj H
       have hcz19_0 : wc.cell? ⟨gb368, 0, none⟩ = some (.int .i64 a0_0) := (blk_cell BK368.out 0).trans rfl
       have hcz19_1 : wc.cell? ⟨gb368, 1, none⟩ = some (.int .i64 a0_1) := (blk_cell BK368.out 1).trans rfl
       have hcz19_2 : wc.cell? ⟨gb368, 2, none⟩ = some (.int .i64 a0_2) := (blk_cell BK368.out 2).trans rfl
       have hcz19_3 : wc.cell? ⟨gb368, 3, none⟩ = some (.slice A0_3 l0_3.length c0_3) := (blk_cell BK368.out 3).trans rfl
       have hcz19_4 : wc.cell? ⟨gb368, 4, none⟩ = some (.slice A0_4 l0_4.length c0_4) := (blk_cell BK368.out 4).trans rfl
       have hcz19_5 : wc.cell? ⟨gb368, 5, none⟩ = some (.slice A0_5 l0_5.length c0_5) := (blk_cell BK368.out 5).trans rfl
       have hcz19_6 : wc.cell? ⟨gb368, 6, none⟩ = some (.slice A0_6 l0_6.length c0_6) := (blk_cell BK368.out 6).trans rfl
       have hcz19_7 : wc.cell? ⟨gb368, 7, none⟩ = some (.int .i64 a0_7) := (blk_cell BK368.out 7).trans rfl
       have hcz19_8 : wc.cell? ⟨gb368, 8, none⟩ = some (.int .i64 a0_8) := (blk_cell BK368.out 8).trans rfl
       have hcz19_9 : wc.cell? ⟨gb368, 9, none⟩ = some (.int .i64 a0_9) := (blk_cell BK368.out 9).trans rfl
       have hcz19_10 : wc.cell? ⟨gb368, 10, none⟩ = some (.int .i64 a0_10) := (blk_cell BK368.out 10).trans rfl
       have hcz19_11 : wc.cell? ⟨gb368, 11, none⟩ = some (.int .i64 a0_11) := (blk_cell BK368.out 11).trans rfl
       have hfz19_0 := blk_frozen BK368.out 0
       have hfz19_1 := blk_frozen BK368.out 1
       have hfz19_2 := blk_frozen BK368.out 2
       have hfz19_3 := blk_frozen BK368.out 3
       have hfz19_4 := blk_frozen BK368.out 4
       have hfz19_5 := blk_frozen BK368.out 5
       have hfz19_6 := blk_frozen BK368.out 6
       have hfz19_7 := blk_frozen BK368.out 7
       have hfz19_8 := blk_frozen BK368.out 8
       have hfz19_9 := blk_frozen BK368.out 9
       have hfz19_10 := blk_frozen BK368.out 10
       have hfz19_11 := blk_frozen BK368.out 11
       go_wp2_with (first | ((with_reducible refine gate_callee (f := 34) rfl ?_); refine goesL_ (some 42) rfl rfl Try.func34 (by kernel_rfl) rfl #[.agg #[.int .i64 a0_7, .int .i64 a0_8, .int .i64 a0_9]] rfl (by (try simp only [List.map_toArray, List.map_cons, List.map_nil]); first | done | rfl | (simp only [List.length_drop, List.length_take]; rfl)) ?_; (with_reducible refine (window_Check.calls a0_7 a0_8 a0_9 t369 _ A18.out).mono ?_); rintro e w20 ⟨rfl, hb⟩; refine ⟨_, rfl, ?_⟩; have n0_ := Aside0.mk (blk_below (g := gb368) (o := .cells #[.int .i64 a0_0, .int .i64 a0_1, .int .i64 a0_2, .slice A0_3 l0_3.length c0_3, .slice A0_4 l0_4.length c0_4, .slice A0_5 l0_5.length c0_5, .slice A0_6 l0_6.length c0_6, .int .i64 a0_7, .int .i64 a0_8, .int .i64 a0_9, .int .i64 a0_10, .int .i64 a0_11] 40 (0, 0)) (by (with_reducible repeat (first | refine blk_drewN ?_ _ | refine blk_drew ?_ | refine blk_alloc ?_ _)); exact BK368.out) hb); have n1_ := Aside0.mk (below_step (by repeat (first | (with_reducible first | exact HB.out | apply below_alloc | apply pw_below_drewN | apply below_drew1 | refine below_set ?_ GE368.out) | exact HB.out)) hb); clear BK368; clear HB; have BK368 := n0_; have HB := n1_; clear n0_ n1_; (try clear hb); (try clear hb2); (try clear hk); (try clear hi)))
       go_ret
       exact ⟨by first | rfl | (simp [errW_none, errW_some] <;> rfl) | (simp [*, errW_none, errW_some] <;> rfl), by repeat (first | (with_reducible first | exact HB.out | apply below_alloc | apply pw_below_drewN | apply below_drew1 | refine below_set ?_ GE368.out) | exact HB.out)⟩
      ·rw [if_neg c17] at H
       have c17b0 : (a0_0 == 8) = false := beq_eq_false_iff_ne.mpr c17
       have c17b1 : (a0_0 != 8) = true := bne_iff_ne.mpr c17
       by_cases c21 : a0_0 = 9
       ·rw [if_pos c21] at H
        have c21b0 : (a0_0 == 9) = true := beq_iff_eq.mpr c21
        have c21b1 : (a0_0 != 9) = false := bne_eq_false_iff_eq.mpr c21
        clear c21
        replace H := Option.bind_eq_some_iff.mp H
        obtain ⟨t370, A220, H⟩ := H
        replace H : (if t370 = 0 then (if a0_10 ≥ 1 then (if a0_10 ≤ 64 then ((plan_col.f a0_11).bind fun t371 => (some t371)) else (some false)) else (some false)) else (some false)) = some r := H
        have A22 := Aside0.mk A220
        clear A220
        by_cases c23 : t370 = 0
        ·rw [if_pos c23] at H
         have c23b0 : (t370 == 0) = true := beq_iff_eq.mpr c23
         have c23b1 : (t370 != 0) = false := bne_eq_false_iff_eq.mpr c23
         clear c23
         by_cases c24 : a0_10 ≥ 1
         ·rw [if_pos c24] at H
          have c24b0 : decide (1 ≤ a0_10) = true := decide_eq_true c24
          clear c24
          by_cases c25 : a0_10 ≤ 64
          ·rw [if_pos c25] at H
           have c25b0 : decide (a0_10 ≤ 64) = true := decide_eq_true c25
           clear c25
           replace H := Option.bind_eq_some_iff.mp H
           obtain ⟨t371, A260, H⟩ := H
           replace H : (some t371) = some r := H
           have A26 := Aside0.mk A260
           clear A260
           obtain rfl := Option.some.inj H
           have hcz27_0 : wc.cell? ⟨gb368, 0, none⟩ = some (.int .i64 a0_0) := (blk_cell BK368.out 0).trans rfl
           have hcz27_1 : wc.cell? ⟨gb368, 1, none⟩ = some (.int .i64 a0_1) := (blk_cell BK368.out 1).trans rfl
           have hcz27_2 : wc.cell? ⟨gb368, 2, none⟩ = some (.int .i64 a0_2) := (blk_cell BK368.out 2).trans rfl
           have hcz27_3 : wc.cell? ⟨gb368, 3, none⟩ = some (.slice A0_3 l0_3.length c0_3) := (blk_cell BK368.out 3).trans rfl
           have hcz27_4 : wc.cell? ⟨gb368, 4, none⟩ = some (.slice A0_4 l0_4.length c0_4) := (blk_cell BK368.out 4).trans rfl
           have hcz27_5 : wc.cell? ⟨gb368, 5, none⟩ = some (.slice A0_5 l0_5.length c0_5) := (blk_cell BK368.out 5).trans rfl
           have hcz27_6 : wc.cell? ⟨gb368, 6, none⟩ = some (.slice A0_6 l0_6.length c0_6) := (blk_cell BK368.out 6).trans rfl
           have hcz27_7 : wc.cell? ⟨gb368, 7, none⟩ = some (.int .i64 a0_7) := (blk_cell BK368.out 7).trans rfl
           have hcz27_8 : wc.cell? ⟨gb368, 8, none⟩ = some (.int .i64 a0_8) := (blk_cell BK368.out 8).trans rfl
           have hcz27_9 : wc.cell? ⟨gb368, 9, none⟩ = some (.int .i64 a0_9) := (blk_cell BK368.out 9).trans rfl
           have hcz27_10 : wc.cell? ⟨gb368, 10, none⟩ = some (.int .i64 a0_10) := (blk_cell BK368.out 10).trans rfl
           have hcz27_11 : wc.cell? ⟨gb368, 11, none⟩ = some (.int .i64 a0_11) := (blk_cell BK368.out 11).trans rfl
           have hfz27_0 := blk_frozen BK368.out 0
           have hfz27_1 := blk_frozen BK368.out 1
           have hfz27_2 := blk_frozen BK368.out 2
           have hfz27_3 := blk_frozen BK368.out 3
           have hfz27_4 := blk_frozen BK368.out 4
           have hfz27_5 := blk_frozen BK368.out 5
           have hfz27_6 := blk_frozen BK368.out 6
           have hfz27_7 := blk_frozen BK368.out 7
           have hfz27_8 := blk_frozen BK368.out 8
           have hfz27_9 := blk_frozen BK368.out 9
           have hfz27_10 := blk_frozen BK368.out 10
           have hfz27_11 := blk_frozen BK368.out 11
           go_wp2_with (first | ((with_reducible refine gate_callee (f := 34) rfl ?_); refine goesL_ (some 48) rfl rfl Try.func34 (by kernel_rfl) rfl #[.agg #[.int .i64 a0_7, .int .i64 a0_8, .int .i64 a0_9]] rfl (by (try simp only [List.map_toArray, List.map_cons, List.map_nil]); first | done | rfl | (simp only [List.length_drop, List.length_take]; rfl)) ?_; (with_reducible refine (window_Check.calls a0_7 a0_8 a0_9 t370 _ A22.out).mono ?_); rintro e w28 ⟨rfl, hb⟩; refine ⟨_, rfl, ?_⟩; have n0_ := Aside0.mk (blk_below (g := gb368) (o := .cells #[.int .i64 a0_0, .int .i64 a0_1, .int .i64 a0_2, .slice A0_3 l0_3.length c0_3, .slice A0_4 l0_4.length c0_4, .slice A0_5 l0_5.length c0_5, .slice A0_6 l0_6.length c0_6, .int .i64 a0_7, .int .i64 a0_8, .int .i64 a0_9, .int .i64 a0_10, .int .i64 a0_11] 40 (0, 0)) (by (with_reducible repeat (first | refine blk_drewN ?_ _ | refine blk_drew ?_ | refine blk_alloc ?_ _)); exact BK368.out) hb); have n1_ := Aside0.mk (below_step (by repeat (first | (with_reducible first | exact HB.out | apply below_alloc | apply pw_below_drewN | apply below_drew1 | refine below_set ?_ GE368.out) | exact HB.out)) hb); clear BK368; clear HB; have BK368 := n0_; have HB := n1_; clear n0_ n1_; (try clear hb); (try clear hb2); (try clear hk); (try clear hi); have hcz29_0 : w28.cell? ⟨gb368, 0, none⟩ = some (.int .i64 a0_0) := (blk_cell BK368.out 0).trans rfl; have hcz29_1 : w28.cell? ⟨gb368, 1, none⟩ = some (.int .i64 a0_1) := (blk_cell BK368.out 1).trans rfl; have hcz29_2 : w28.cell? ⟨gb368, 2, none⟩ = some (.int .i64 a0_2) := (blk_cell BK368.out 2).trans rfl; have hcz29_3 : w28.cell? ⟨gb368, 3, none⟩ = some (.slice A0_3 l0_3.length c0_3) := (blk_cell BK368.out 3).trans rfl; have hcz29_4 : w28.cell? ⟨gb368, 4, none⟩ = some (.slice A0_4 l0_4.length c0_4) := (blk_cell BK368.out 4).trans rfl; have hcz29_5 : w28.cell? ⟨gb368, 5, none⟩ = some (.slice A0_5 l0_5.length c0_5) := (blk_cell BK368.out 5).trans rfl; have hcz29_6 : w28.cell? ⟨gb368, 6, none⟩ = some (.slice A0_6 l0_6.length c0_6) := (blk_cell BK368.out 6).trans rfl; have hcz29_7 : w28.cell? ⟨gb368, 7, none⟩ = some (.int .i64 a0_7) := (blk_cell BK368.out 7).trans rfl; have hcz29_8 : w28.cell? ⟨gb368, 8, none⟩ = some (.int .i64 a0_8) := (blk_cell BK368.out 8).trans rfl; have hcz29_9 : w28.cell? ⟨gb368, 9, none⟩ = some (.int .i64 a0_9) := (blk_cell BK368.out 9).trans rfl; have hcz29_10 : w28.cell? ⟨gb368, 10, none⟩ = some (.int .i64 a0_10) := (blk_cell BK368.out 10).trans rfl; have hcz29_11 : w28.cell? ⟨gb368, 11, none⟩ = some (.int .i64 a0_11) := (blk_cell BK368.out 11).trans rfl; have hfz29_0 := blk_frozen BK368.out 0; have hfz29_1 := blk_frozen BK368.out 1; have hfz29_2 := blk_frozen BK368.out 2; have hfz29_3 := blk_frozen BK368.out 3; have hfz29_4 := blk_frozen BK368.out 4; have hfz29_5 := blk_frozen BK368.out 5; have hfz29_6 := blk_frozen BK368.out 6; have hfz29_7 := blk_frozen BK368.out 7; have hfz29_8 := blk_frozen BK368.out 8; have hfz29_9 := blk_frozen BK368.out 9; have hfz29_10 := blk_frozen BK368.out 10; have hfz29_11 := blk_frozen BK368.out 11) | (go_at_call 35; (with_reducible refine (plan_col.calls a0_11 t371 _ A26.out).mono ?_); rintro e w' ⟨rfl, ⟨nd, rfl⟩⟩))
           go_ret
           exact ⟨by first | rfl | (simp [errW_none, errW_some] <;> rfl) | (simp [*, errW_none, errW_some] <;> rfl), by repeat (first | (with_reducible first | exact HB.out | apply below_alloc | apply pw_below_drewN | apply below_drew1 | refine below_set ?_ GE368.out) | exact HB.out)⟩
          ·rw [if_neg c25] at H
           have c25b0 : decide (a0_10 ≤ 64) = false := decide_eq_false c25
           clear c25
           obtain rfl := Option.some.inj H
           have hcz30_0 : wc.cell? ⟨gb368, 0, none⟩ = some (.int .i64 a0_0) := (blk_cell BK368.out 0).trans rfl
           have hcz30_1 : wc.cell? ⟨gb368, 1, none⟩ = some (.int .i64 a0_1) := (blk_cell BK368.out 1).trans rfl
           have hcz30_2 : wc.cell? ⟨gb368, 2, none⟩ = some (.int .i64 a0_2) := (blk_cell BK368.out 2).trans rfl
           have hcz30_3 : wc.cell? ⟨gb368, 3, none⟩ = some (.slice A0_3 l0_3.length c0_3) := (blk_cell BK368.out 3).trans rfl
           have hcz30_4 : wc.cell? ⟨gb368, 4, none⟩ = some (.slice A0_4 l0_4.length c0_4) := (blk_cell BK368.out 4).trans rfl
           have hcz30_5 : wc.cell? ⟨gb368, 5, none⟩ = some (.slice A0_5 l0_5.length c0_5) := (blk_cell BK368.out 5).trans rfl
           have hcz30_6 : wc.cell? ⟨gb368, 6, none⟩ = some (.slice A0_6 l0_6.length c0_6) := (blk_cell BK368.out 6).trans rfl
           have hcz30_7 : wc.cell? ⟨gb368, 7, none⟩ = some (.int .i64 a0_7) := (blk_cell BK368.out 7).trans rfl
           have hcz30_8 : wc.cell? ⟨gb368, 8, none⟩ = some (.int .i64 a0_8) := (blk_cell BK368.out 8).trans rfl
           have hcz30_9 : wc.cell? ⟨gb368, 9, none⟩ = some (.int .i64 a0_9) := (blk_cell BK368.out 9).trans rfl
           have hcz30_10 : wc.cell? ⟨gb368, 10, none⟩ = some (.int .i64 a0_10) := (blk_cell BK368.out 10).trans rfl
           have hcz30_11 : wc.cell? ⟨gb368, 11, none⟩ = some (.int .i64 a0_11) := (blk_cell BK368.out 11).trans rfl
           have hfz30_0 := blk_frozen BK368.out 0
           have hfz30_1 := blk_frozen BK368.out 1
           have hfz30_2 := blk_frozen BK368.out 2
           have hfz30_3 := blk_frozen BK368.out 3
           have hfz30_4 := blk_frozen BK368.out 4
           have hfz30_5 := blk_frozen BK368.out 5
           have hfz30_6 := blk_frozen BK368.out 6
           have hfz30_7 := blk_frozen BK368.out 7
           have hfz30_8 := blk_frozen BK368.out 8
           have hfz30_9 := blk_frozen BK368.out 9
           have hfz30_10 := blk_frozen BK368.out 10
           have hfz30_11 := blk_frozen BK368.out 11
           go_wp2_with (first | ((with_reducible refine gate_callee (f := 34) rfl ?_); refine goesL_ (some 48) rfl rfl Try.func34 (by kernel_rfl) rfl #[.agg #[.int .i64 a0_7, .int .i64 a0_8, .int .i64 a0_9]] rfl (by (try simp only [List.map_toArray, List.map_cons, List.map_nil]); first | done | rfl | (simp only [List.length_drop, List.length_take]; rfl)) ?_; (with_reducible refine (window_Check.calls a0_7 a0_8 a0_9 t370 _ A22.out).mono ?_); rintro e w31 ⟨rfl, hb⟩; refine ⟨_, rfl, ?_⟩; have n0_ := Aside0.mk (blk_below (g := gb368) (o := .cells #[.int .i64 a0_0, .int .i64 a0_1, .int .i64 a0_2, .slice A0_3 l0_3.length c0_3, .slice A0_4 l0_4.length c0_4, .slice A0_5 l0_5.length c0_5, .slice A0_6 l0_6.length c0_6, .int .i64 a0_7, .int .i64 a0_8, .int .i64 a0_9, .int .i64 a0_10, .int .i64 a0_11] 40 (0, 0)) (by (with_reducible repeat (first | refine blk_drewN ?_ _ | refine blk_drew ?_ | refine blk_alloc ?_ _)); exact BK368.out) hb); have n1_ := Aside0.mk (below_step (by repeat (first | (with_reducible first | exact HB.out | apply below_alloc | apply pw_below_drewN | apply below_drew1 | refine below_set ?_ GE368.out) | exact HB.out)) hb); clear BK368; clear HB; have BK368 := n0_; have HB := n1_; clear n0_ n1_; (try clear hb); (try clear hb2); (try clear hk); (try clear hi); have hcz32_0 : w31.cell? ⟨gb368, 0, none⟩ = some (.int .i64 a0_0) := (blk_cell BK368.out 0).trans rfl; have hcz32_1 : w31.cell? ⟨gb368, 1, none⟩ = some (.int .i64 a0_1) := (blk_cell BK368.out 1).trans rfl; have hcz32_2 : w31.cell? ⟨gb368, 2, none⟩ = some (.int .i64 a0_2) := (blk_cell BK368.out 2).trans rfl; have hcz32_3 : w31.cell? ⟨gb368, 3, none⟩ = some (.slice A0_3 l0_3.length c0_3) := (blk_cell BK368.out 3).trans rfl; have hcz32_4 : w31.cell? ⟨gb368, 4, none⟩ = some (.slice A0_4 l0_4.length c0_4) := (blk_cell BK368.out 4).trans rfl; have hcz32_5 : w31.cell? ⟨gb368, 5, none⟩ = some (.slice A0_5 l0_5.length c0_5) := (blk_cell BK368.out 5).trans rfl; have hcz32_6 : w31.cell? ⟨gb368, 6, none⟩ = some (.slice A0_6 l0_6.length c0_6) := (blk_cell BK368.out 6).trans rfl; have hcz32_7 : w31.cell? ⟨gb368, 7, none⟩ = some (.int .i64 a0_7) := (blk_cell BK368.out 7).trans rfl; have hcz32_8 : w31.cell? ⟨gb368, 8, none⟩ = some (.int .i64 a0_8) := (blk_cell BK368.out 8).trans rfl; have hcz32_9 : w31.cell? ⟨gb368, 9, none⟩ = some (.int .i64 a0_9) := (blk_cell BK368.out 9).trans rfl; have hcz32_10 : w31.cell? ⟨gb368, 10, none⟩ = some (.int .i64 a0_10) := (blk_cell BK368.out 10).trans rfl; have hcz32_11 : w31.cell? ⟨gb368, 11, none⟩ = some (.int .i64 a0_11) := (blk_cell BK368.out 11).trans rfl; have hfz32_0 := blk_frozen BK368.out 0; have hfz32_1 := blk_frozen BK368.out 1; have hfz32_2 := blk_frozen BK368.out 2; have hfz32_3 := blk_frozen BK368.out 3; have hfz32_4 := blk_frozen BK368.out 4; have hfz32_5 := blk_frozen BK368.out 5; have hfz32_6 := blk_frozen BK368.out 6; have hfz32_7 := blk_frozen BK368.out 7; have hfz32_8 := blk_frozen BK368.out 8; have hfz32_9 := blk_frozen BK368.out 9; have hfz32_10 := blk_frozen BK368.out 10; have hfz32_11 := blk_frozen BK368.out 11))
           go_ret
           exact ⟨by first | rfl | (simp [errW_none, errW_some] <;> rfl) | (simp [*, errW_none, errW_some] <;> rfl), by repeat (first | (with_reducible first | exact HB.out | apply below_alloc | apply pw_below_drewN | apply below_drew1 | refine below_set ?_ GE368.out) | exact HB.out)⟩
         ·rw [if_neg c24] at H
          have c24b0 : decide (1 ≤ a0_10) = false := decide_eq_false c24
          clear c24
          obtain rfl := Option.some.inj H
          have hcz33_0 : wc.cell? ⟨gb368, 0, none⟩ = some (.int .i64 a0_0) := (blk_cell BK368.out 0).trans rfl
          have hcz33_1 : wc.cell? ⟨gb368, 1, none⟩ = some (.int .i64 a0_1) := (blk_cell BK368.out 1).trans rfl
          have hcz33_2 : wc.cell? ⟨gb368, 2, none⟩ = some (.int .i64 a0_2) := (blk_cell BK368.out 2).trans rfl
          have hcz33_3 : wc.cell? ⟨gb368, 3, none⟩ = some (.slice A0_3 l0_3.length c0_3) := (blk_cell BK368.out 3).trans rfl
          have hcz33_4 : wc.cell? ⟨gb368, 4, none⟩ = some (.slice A0_4 l0_4.length c0_4) := (blk_cell BK368.out 4).trans rfl
          have hcz33_5 : wc.cell? ⟨gb368, 5, none⟩ = some (.slice A0_5 l0_5.length c0_5) := (blk_cell BK368.out 5).trans rfl
          have hcz33_6 : wc.cell? ⟨gb368, 6, none⟩ = some (.slice A0_6 l0_6.length c0_6) := (blk_cell BK368.out 6).trans rfl
          have hcz33_7 : wc.cell? ⟨gb368, 7, none⟩ = some (.int .i64 a0_7) := (blk_cell BK368.out 7).trans rfl
          have hcz33_8 : wc.cell? ⟨gb368, 8, none⟩ = some (.int .i64 a0_8) := (blk_cell BK368.out 8).trans rfl
          have hcz33_9 : wc.cell? ⟨gb368, 9, none⟩ = some (.int .i64 a0_9) := (blk_cell BK368.out 9).trans rfl
          have hcz33_10 : wc.cell? ⟨gb368, 10, none⟩ = some (.int .i64 a0_10) := (blk_cell BK368.out 10).trans rfl
          have hcz33_11 : wc.cell? ⟨gb368, 11, none⟩ = some (.int .i64 a0_11) := (blk_cell BK368.out 11).trans rfl
          have hfz33_0 := blk_frozen BK368.out 0
          have hfz33_1 := blk_frozen BK368.out 1
          have hfz33_2 := blk_frozen BK368.out 2
          have hfz33_3 := blk_frozen BK368.out 3
          have hfz33_4 := blk_frozen BK368.out 4
          have hfz33_5 := blk_frozen BK368.out 5
          have hfz33_6 := blk_frozen BK368.out 6
          have hfz33_7 := blk_frozen BK368.out 7
          have hfz33_8 := blk_frozen BK368.out 8
          have hfz33_9 := blk_frozen BK368.out 9
          have hfz33_10 := blk_frozen BK368.out 10
          have hfz33_11 := blk_frozen BK368.out 11
          go_wp2_with (first | ((with_reducible refine gate_callee (f := 34) rfl ?_); refine goesL_ (some 48) rfl rfl Try.func34 (by kernel_rfl) rfl #[.agg #[.int .i64 a0_7, .int .i64 a0_8, .int .i64 a0_9]] rfl (by (try simp only [List.map_toArray, List.map_cons, List.map_nil]); first | done | rfl | (simp only [List.length_drop, List.length_take]; rfl)) ?_; (with_reducible refine (window_Check.calls a0_7 a0_8 a0_9 t370 _ A22.out).mono ?_); rintro e w34 ⟨rfl, hb⟩; refine ⟨_, rfl, ?_⟩; have n0_ := Aside0.mk (blk_below (g := gb368) (o := .cells #[.int .i64 a0_0, .int .i64 a0_1, .int .i64 a0_2, .slice A0_3 l0_3.length c0_3, .slice A0_4 l0_4.length c0_4, .slice A0_5 l0_5.length c0_5, .slice A0_6 l0_6.length c0_6, .int .i64 a0_7, .int .i64 a0_8, .int .i64 a0_9, .int .i64 a0_10, .int .i64 a0_11] 40 (0, 0)) (by (with_reducible repeat (first | refine blk_drewN ?_ _ | refine blk_drew ?_ | refine blk_alloc ?_ _)); exact BK368.out) hb); have n1_ := Aside0.mk (below_step (by repeat (first | (with_reducible first | exact HB.out | apply below_alloc | apply pw_below_drewN | apply below_drew1 | refine below_set ?_ GE368.out) | exact HB.out)) hb); clear BK368; clear HB; have BK368 := n0_; have HB := n1_; clear n0_ n1_; (try clear hb); (try clear hb2); (try clear hk); (try clear hi); have hcz35_0 : w34.cell? ⟨gb368, 0, none⟩ = some (.int .i64 a0_0) := (blk_cell BK368.out 0).trans rfl; have hcz35_1 : w34.cell? ⟨gb368, 1, none⟩ = some (.int .i64 a0_1) := (blk_cell BK368.out 1).trans rfl; have hcz35_2 : w34.cell? ⟨gb368, 2, none⟩ = some (.int .i64 a0_2) := (blk_cell BK368.out 2).trans rfl; have hcz35_3 : w34.cell? ⟨gb368, 3, none⟩ = some (.slice A0_3 l0_3.length c0_3) := (blk_cell BK368.out 3).trans rfl; have hcz35_4 : w34.cell? ⟨gb368, 4, none⟩ = some (.slice A0_4 l0_4.length c0_4) := (blk_cell BK368.out 4).trans rfl; have hcz35_5 : w34.cell? ⟨gb368, 5, none⟩ = some (.slice A0_5 l0_5.length c0_5) := (blk_cell BK368.out 5).trans rfl; have hcz35_6 : w34.cell? ⟨gb368, 6, none⟩ = some (.slice A0_6 l0_6.length c0_6) := (blk_cell BK368.out 6).trans rfl; have hcz35_7 : w34.cell? ⟨gb368, 7, none⟩ = some (.int .i64 a0_7) := (blk_cell BK368.out 7).trans rfl; have hcz35_8 : w34.cell? ⟨gb368, 8, none⟩ = some (.int .i64 a0_8) := (blk_cell BK368.out 8).trans rfl; have hcz35_9 : w34.cell? ⟨gb368, 9, none⟩ = some (.int .i64 a0_9) := (blk_cell BK368.out 9).trans rfl; have hcz35_10 : w34.cell? ⟨gb368, 10, none⟩ = some (.int .i64 a0_10) := (blk_cell BK368.out 10).trans rfl; have hcz35_11 : w34.cell? ⟨gb368, 11, none⟩ = some (.int .i64 a0_11) := (blk_cell BK368.out 11).trans rfl; have hfz35_0 := blk_frozen BK368.out 0; have hfz35_1 := blk_frozen BK368.out 1; have hfz35_2 := blk_frozen BK368.out 2; have hfz35_3 := blk_frozen BK368.out 3; have hfz35_4 := blk_frozen BK368.out 4; have hfz35_5 := blk_frozen BK368.out 5; have hfz35_6 := blk_frozen BK368.out 6; have hfz35_7 := blk_frozen BK368.out 7; have hfz35_8 := blk_frozen BK368.out 8; have hfz35_9 := blk_frozen BK368.out 9; have hfz35_10 := blk_frozen BK368.out 10; have hfz35_11 := blk_frozen BK368.out 11))
          go_ret
          exact ⟨by first | rfl | (simp [errW_none, errW_some] <;> rfl) | (simp [*, errW_none, errW_some] <;> rfl), by repeat (first | (with_reducible first | exact HB.out | apply below_alloc | apply pw_below_drewN | apply below_drew1 | refine below_set ?_ GE368.out) | exact HB.out)⟩
        ·rw [if_neg c23] at H
         have c23b0 : (t370 == 0) = false := beq_eq_false_iff_ne.mpr c23
         have c23b1 : (t370 != 0) = true := bne_iff_ne.mpr c23
         obtain rfl := Option.some.inj H
         have hcz36_0 : wc.cell? ⟨gb368, 0, none⟩ = some (.int .i64 a0_0) := (blk_cell BK368.out 0).trans rfl
         have hcz36_1 : wc.cell? ⟨gb368, 1, none⟩ = some (.int .i64 a0_1) := (blk_cell BK368.out 1).trans rfl
         have hcz36_2 : wc.cell? ⟨gb368, 2, none⟩ = some (.int .i64 a0_2) := (blk_cell BK368.out 2).trans rfl
         have hcz36_3 : wc.cell? ⟨gb368, 3, none⟩ = some (.slice A0_3 l0_3.length c0_3) := (blk_cell BK368.out 3).trans rfl
         have hcz36_4 : wc.cell? ⟨gb368, 4, none⟩ = some (.slice A0_4 l0_4.length c0_4) := (blk_cell BK368.out 4).trans rfl
         have hcz36_5 : wc.cell? ⟨gb368, 5, none⟩ = some (.slice A0_5 l0_5.length c0_5) := (blk_cell BK368.out 5).trans rfl
         have hcz36_6 : wc.cell? ⟨gb368, 6, none⟩ = some (.slice A0_6 l0_6.length c0_6) := (blk_cell BK368.out 6).trans rfl
         have hcz36_7 : wc.cell? ⟨gb368, 7, none⟩ = some (.int .i64 a0_7) := (blk_cell BK368.out 7).trans rfl
         have hcz36_8 : wc.cell? ⟨gb368, 8, none⟩ = some (.int .i64 a0_8) := (blk_cell BK368.out 8).trans rfl
         have hcz36_9 : wc.cell? ⟨gb368, 9, none⟩ = some (.int .i64 a0_9) := (blk_cell BK368.out 9).trans rfl
         have hcz36_10 : wc.cell? ⟨gb368, 10, none⟩ = some (.int .i64 a0_10) := (blk_cell BK368.out 10).trans rfl
         have hcz36_11 : wc.cell? ⟨gb368, 11, none⟩ = some (.int .i64 a0_11) := (blk_cell BK368.out 11).trans rfl
         have hfz36_0 := blk_frozen BK368.out 0
         have hfz36_1 := blk_frozen BK368.out 1
         have hfz36_2 := blk_frozen BK368.out 2
         have hfz36_3 := blk_frozen BK368.out 3
         have hfz36_4 := blk_frozen BK368.out 4
         have hfz36_5 := blk_frozen BK368.out 5
         have hfz36_6 := blk_frozen BK368.out 6
         have hfz36_7 := blk_frozen BK368.out 7
         have hfz36_8 := blk_frozen BK368.out 8
         have hfz36_9 := blk_frozen BK368.out 9
         have hfz36_10 := blk_frozen BK368.out 10
         have hfz36_11 := blk_frozen BK368.out 11
         go_wp2_with (first | ((with_reducible refine gate_callee (f := 34) rfl ?_); refine goesL_ (some 48) rfl rfl Try.func34 (by kernel_rfl) rfl #[.agg #[.int .i64 a0_7, .int .i64 a0_8, .int .i64 a0_9]] rfl (by (try simp only [List.map_toArray, List.map_cons, List.map_nil]); first | done | rfl | (simp only [List.length_drop, List.length_take]; rfl)) ?_; (with_reducible refine (window_Check.calls a0_7 a0_8 a0_9 t370 _ A22.out).mono ?_); rintro e w37 ⟨rfl, hb⟩; refine ⟨_, rfl, ?_⟩; have n0_ := Aside0.mk (blk_below (g := gb368) (o := .cells #[.int .i64 a0_0, .int .i64 a0_1, .int .i64 a0_2, .slice A0_3 l0_3.length c0_3, .slice A0_4 l0_4.length c0_4, .slice A0_5 l0_5.length c0_5, .slice A0_6 l0_6.length c0_6, .int .i64 a0_7, .int .i64 a0_8, .int .i64 a0_9, .int .i64 a0_10, .int .i64 a0_11] 40 (0, 0)) (by (with_reducible repeat (first | refine blk_drewN ?_ _ | refine blk_drew ?_ | refine blk_alloc ?_ _)); exact BK368.out) hb); have n1_ := Aside0.mk (below_step (by repeat (first | (with_reducible first | exact HB.out | apply below_alloc | apply pw_below_drewN | apply below_drew1 | refine below_set ?_ GE368.out) | exact HB.out)) hb); clear BK368; clear HB; have BK368 := n0_; have HB := n1_; clear n0_ n1_; (try clear hb); (try clear hb2); (try clear hk); (try clear hi)))
         go_ret
         exact ⟨by first | rfl | (simp [errW_none, errW_some] <;> rfl) | (simp [*, errW_none, errW_some] <;> rfl), by repeat (first | (with_reducible first | exact HB.out | apply below_alloc | apply pw_below_drewN | apply below_drew1 | refine below_set ?_ GE368.out) | exact HB.out)⟩
       ·rw [if_neg c21] at H
        have c21b0 : (a0_0 == 9) = false := beq_eq_false_iff_ne.mpr c21
        have c21b1 : (a0_0 != 9) = true := bne_iff_ne.mpr c21
        obtain rfl := Option.some.inj H
        go_wp2
        go_ret
        exact ⟨by first | rfl | (simp [errW_none, errW_some] <;> rfl) | (simp [*, errW_none, errW_some] <;> rfl), by repeat (first | (with_reducible first | exact HB.out | apply below_alloc | apply pw_below_drewN | apply below_drew1 | refine below_set ?_ GE368.out) | exact HB.out)⟩
end Go.Proofs.Ytpidiibhgfjemaa.PLo
end
section
namespace Go.Proofs.Ytpidiibhgfjemaa.PLo
open Go.Proofs.Ytpidiibhgfjemaa.PLg Go.Proofs.Ytpidiibhgfjemaa.PLh
open Go.RowKit Go.Proofs.YtpidiibhgfjemaaW.PrintWords Go.Proofs.YtpidiibhgfjemaaW.PrintLast Go.Proofs.YtpidiibhgfjemaaW.PrintMore
attribute [local go_sem] max2_int min2_int max_two min_two max_three min_three max_four min_four
set_option linter.unusedVariables false
set_option linter.unusedSimpArgs false
end Go.Proofs.Ytpidiibhgfjemaa.PLo
end
section
namespace Go.Proofs.Ytpidiibhgfjemaa.PLh
open Go.Proofs.Ytpidiibhgfjemaa.PLg
open Go.RowKit Go.Proofs.YtpidiibhgfjemaaW.PrintWords Go.Proofs.YtpidiibhgfjemaaW.PrintLast Go.Proofs.YtpidiibhgfjemaaW.PrintMore
set_option linter.unusedVariables false
set_option linter.unusedSimpArgs false
attribute [local go_sem] max2_int min2_int max_two min_two max_three min_three max_four min_four
theorem eqA34 (d : Nat) (w : World) (x0 y0 : Int) (x1 y1 : Int) (x2 y2 : Int) :
  (Op.equalIn (d + 2) 34 (.agg #[.int .i64 x0, .int .i64 x1, .int .i64 x2]) (.agg #[.int .i64 y0, .int .i64 y1, .int .i64 y2])).run Try.prog w = .ok (x0 == y0 && (x1 == y1 && (x2 == y2))) w := by
 refine eqA_of Try.underlying34 (by kernel_rfl) ?_
 refine eqf_cons (by rfl) (by go_simp; rfl) (by go_simp; rfl) (by go_simp) ?_
 refine eqf_cons (by rfl) (by go_simp; rfl) (by go_simp; rfl) (by go_simp) ?_
 exact eqf_last (by rfl) (by go_simp; rfl) (by go_simp; rfl) (by go_simp)
def plan_spare.T1 : Bool × List (List Nat × List Nat) := (true, [([], []), ([0], [0]), ([1], [1]), ([], []), ([3], [3]), ([4], [4]), ([5], [5]), ([], []), ([7], [7]), ([8], [8]), ([9], [9]), ([], []), ([11], [11]), ([12], [12]), ([13], [13]), ([], []), ([15], [15]), ([16], [16]), ([17], [17]), ([], []), ([19], [19]), ([], []), ([20, 21], [20, 21]), ([], []), ([23], [23]), ([24], [24]), ([], []), ([26], [26]), ([27], [27]), ([2, 6, 10, 14, 18, 22, 25, 28], [2, 6, 10, 14, 18, 22, 25, 28]), ([], []), ([30, 29, 0, 1, 2, 3, 4, 5, 6, 7, 8, 9, 10, 11, 12, 13, 14, 15, 16, 17, 18, 19, 20, 21, 22, 23, 24, 25, 26, 27, 28, 29, 30], [29, 30])])
def plan_spare.B1 : List Nat := [0, 1, 3, 0, 8, 24, 56, 0, 128, 384, 896, 0, 2048, 6144, 14336, 0, 32768, 98304, 229376, 0, 524288, 0, 3670016, 0, 8388608, 25165824, 0, 67108864, 201326592, 536870911, 0, 2147483647]
theorem plan_spare.tab1 : rtab .any (opsOf Try.f24 1) = plan_spare.T1 := by kernel_rfl
theorem plan_spare.bits1 : waitsOk plan_spare.T1.2 plan_spare.B1 = true := by kernel_rfl
def spareB (b u : List Bool) : Bool := (b.zip u).any fun x => x.1 && !x.2
theorem gen_world {P : Program} {c : Code} {Q : Exit → Act → World → Prop} {a : Act} {W0 : World} (Φ : World → Prop) (h0 : Φ W0) (h : ∀ W, Φ W → c.wp P Q a W) : c.wp P Q a W0 := h _ h0
end Go.Proofs.Ytpidiibhgfjemaa.PLh
end
