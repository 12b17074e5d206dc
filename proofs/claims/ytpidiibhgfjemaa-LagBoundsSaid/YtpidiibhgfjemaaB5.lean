/- Texts of this claim, put together by a program: LgL, PLix0, PLnx0, PLnx1, PLnx2, PLnx3, PLnx, Run, RunApp, LgR, LgT, LgU, LgV, LgW, LgX, LgY, LgZ, LgN, LgO, PLjx0, PLzx0. -/
import Derived.Test.YtpidiibhgfjemaaB4
import Derived.Test.YtpidiibhgfjemaaProg
import Derived.Below
import Derived.Deep.Draws
import Derived.Deep.AppendLies
import Derived.Maps.AppendAt
import Derived.OwnWalk
import Derived.Laws.BytesArg
import Derived.Laws.MakeOwn
import Derived.Laws.OwnMore
import Derived.Deep.OwnRows
import Derived.Tactics
import Derived.Lib.ConvBytes
import Derived.Laws.Slices
import Derived.WalkKit
import Derived.KernelRfl
import Derived.RowKit3
import Derived.Deep.LoopGhost
import Derived.Deep.QuietTactic
import Derived.BigQuiet
import Derived.WideLaws
import Derived.Deep.DeepCutAuto
import Derived.Deep.CutBlock
import Derived.Deep.RegionHeld3
import Derived.Laws.Rows
import Derived.Lib.AppendStr
import Derived.ArgAppend
import Derived.Laws.IdiomCopy
import Derived.OrdersHeld
import Derived.Laws.BitsLemmas
import Derived.RowKit
import Derived.RangeFuncNested
import Derived.RangeFuncBound
import Derived.RangeFuncCalls
import Derived.RangeFuncLeaves
import Derived.RangeFuncBox
import Derived.OwnWalkIn
import Derived.Shelf.Abstract
import Derived.TacticsInMore
import Derived.LoopNIn
import Derived.LoopIn
section
namespace Go.Proofs.Ytpidiibhgfjemaa.PLh
open Go.Proofs.Ytpidiibhgfjemaa.PLg
open Go.RowKit Go.Proofs.YtpidiibhgfjemaaW.PrintWords Go.Proofs.YtpidiibhgfjemaaW.PrintLast Go.Proofs.YtpidiibhgfjemaaW.PrintMore
open Go.Proofs.Ytpidiibhgfjemaa.PLo
set_option linter.unusedVariables false
set_option linter.unusedSimpArgs false
theorem rmay_eq (a b c : Int) : rmayB a b c = chkS a b c := by
 have h : rescindref30_May.f a b c = some (chkS a b c) := by
  unfold rescindref30_May.f rescindref28_May.f chkS spanB
  by_cases h2 : a = 2
  ·subst h2
   simp only [↓reduceIte, show ((2 : Int) = 1) = False from by decide]
   by_cases q1 : b > 0
   ·by_cases q2 : b ≤ 1099511627776
    ·by_cases q3 : c > 0
     ·simp [q1, q2, q3, show 1 ≤ b from q1, show 1 ≤ c from q3]
     ·simp [q1, q2, show ¬ (0 < c) from q3, show 1 ≤ b from q1, show ¬ 1 ≤ c from q3]
    ·simp [q1, q2, show 1 ≤ b from q1]
   ·simp [q1, show ¬ 1 ≤ b from q1]
  ·rw [if_neg h2]
   by_cases h1 : a = 1
   ·subst h1
    by_cases hc : c = 0 <;> by_cases hb : b = 0 <;> simp [hb, hc]
   ·by_cases h3 : a = 3
    ·subst h3
     by_cases hc : c = 0
     ·by_cases q1 : b > 0
      ·simp [hc, q1, show 1 ≤ b from q1]
      ·simp [hc, q1, show ¬ 1 ≤ b from q1]
     ·simp [hc]
    ·by_cases hc : c = 0 <;> simp [h1, h2, h3, hc]
 have h2 := rmayB_f a b c
 rw [h] at h2
 exact (Option.some.inj h2).symm
theorem win_own (a b c : Int) : ((if chkS a b c = true then (0 : Int) else 2) == 0) = chkS a b c := by cases chkS a b c <;> rfl
theorem win_own2 (a b c : Int) : ((if chkS a b c = true then (0 : Int) else 2) = 0) = (chkS a b c = true) := by cases chkS a b c <;> simp
theorem own_1 (a0_1 : Int) (a0_2 : Int) (l0_3 : List (List (S79))) (l0_4 : List ByteArray) (l0_5 : List Int) (l0_6 : List (S43)) (a0_7 : Int) (a0_8 : Int) (a0_9 : Int) (a0_10 : Int) (a0_11 : Int) : ownB 1 a0_1 a0_2 l0_3 l0_4 l0_5 l0_6 a0_7 a0_8 a0_9 a0_10 a0_11 = true := by
 unfold ownB
 have h : plan_own.f 1 1 a0_1 a0_2 l0_3 l0_4 l0_5 l0_6 a0_7 a0_8 a0_9 a0_10 a0_11 = some true := by
  simp only [plan_own.f, plan_own.j0, window_Check.f, colB_f, Option.bind_some, win_own, win_own2]
  simp
 rw [h]; rfl
theorem ok_1 (a0_1 : Int) (a0_2 : Int) (l0_3 : List (List (S79))) (l0_4 : List ByteArray) (l0_5 : List Int) (l0_6 : List (S43)) (a0_7 : Int) (a0_8 : Int) (a0_9 : Int) (a0_10 : Int) (a0_11 : Int) : okB 1 a0_1 a0_2 l0_3 l0_4 l0_5 l0_6 a0_7 a0_8 a0_9 a0_10 a0_11 = (!(a0_2 != 0) && (!(a0_11 != 0) && (!(a0_10 != 0) && (!(decide (0 < l0_4.length)) && (!(decide (0 < l0_6.length)) && (!(decide (0 < l0_5.length)) && (!(!a0_7 == 0 || (!a0_8 == 0 || !a0_9 == 0)) && (!(decide (0 < l0_3.length)) && (listsR l0_4 l0_5 l0_6))))))))) := by
 unfold okB specB
 rw [show fieldsT 1 = (false, false, false, false, false, false, false, false) from rfl, own_1, ← listsR_eq]
 unfold spareB
 simp only [List.zip_cons_cons, List.zip_nil_left, List.any_cons, List.any_nil, Bool.or_false, Bool.not_false, Bool.not_true, Bool.and_true, Bool.and_false, Bool.false_or, rmay_eq, rcol_eq]
 generalize (listsR l0_4 l0_5 l0_6) = z
 try generalize (a0_2 != 0) = g0
 try generalize (decide (0 < l0_3.length)) = g1
 try generalize (decide (0 < l0_4.length)) = g2
 try generalize (decide (0 < l0_5.length)) = g3
 try generalize (decide (0 < l0_6.length)) = g4
 try generalize (!a0_7 == 0 || (!a0_8 == 0 || !a0_9 == 0)) = g5
 try generalize (a0_10 != 0) = g6
 try generalize (a0_11 != 0) = g7
 (try cases z) <;> (try cases g0) <;> (try cases g1) <;> (try cases g2) <;> (try cases g3) <;> (try cases g4) <;> (try cases g5) <;> (try cases g6) <;> (try cases g7) <;> rfl
theorem own_2 (a0_1 : Int) (a0_2 : Int) (l0_3 : List (List (S79))) (l0_4 : List ByteArray) (l0_5 : List Int) (l0_6 : List (S43)) (a0_7 : Int) (a0_8 : Int) (a0_9 : Int) (a0_10 : Int) (a0_11 : Int) : ownB 2 a0_1 a0_2 l0_3 l0_4 l0_5 l0_6 a0_7 a0_8 a0_9 a0_10 a0_11 = ((l0_3.length : Int) == 1) := by
 unfold ownB
 have h : plan_own.f 1 2 a0_1 a0_2 l0_3 l0_4 l0_5 l0_6 a0_7 a0_8 a0_9 a0_10 a0_11 = some ((l0_3.length : Int) == 1) := by
  simp only [plan_own.f, plan_own.j0, window_Check.f, colB_f, Option.bind_some, win_own, win_own2]
  simp
 rw [h]; rfl
theorem ok_2 (a0_1 : Int) (a0_2 : Int) (l0_3 : List (List (S79))) (l0_4 : List ByteArray) (l0_5 : List Int) (l0_6 : List (S43)) (a0_7 : Int) (a0_8 : Int) (a0_9 : Int) (a0_10 : Int) (a0_11 : Int) : okB 2 a0_1 a0_2 l0_3 l0_4 l0_5 l0_6 a0_7 a0_8 a0_9 a0_10 a0_11 = (!(a0_2 != 0) && (!(a0_11 != 0) && (!(a0_10 != 0) && (!(decide (0 < l0_4.length)) && (!(decide (0 < l0_6.length)) && (!(decide (0 < l0_5.length)) && (!(!a0_7 == 0 || (!a0_8 == 0 || !a0_9 == 0)) && (!((l0_3.length : Int) != 1) && (listsR l0_4 l0_5 l0_6))))))))) := by
 unfold okB specB
 rw [show fieldsT 2 = (false, true, false, false, false, false, false, false) from rfl, own_2, ← listsR_eq]
 unfold spareB
 simp only [List.zip_cons_cons, List.zip_nil_left, List.any_cons, List.any_nil, Bool.or_false, Bool.not_false, Bool.not_true, Bool.and_true, Bool.and_false, Bool.false_or, rmay_eq, rcol_eq]
 generalize (listsR l0_4 l0_5 l0_6) = z
 rw [show ((l0_3.length : Int) != 1) = !((l0_3.length : Int) == 1) from rfl]
 generalize ((l0_3.length : Int) == 1) = e1
 try generalize (a0_2 != 0) = g0
 try generalize (decide (0 < l0_3.length)) = g1
 try generalize (decide (0 < l0_4.length)) = g2
 try generalize (decide (0 < l0_5.length)) = g3
 try generalize (decide (0 < l0_6.length)) = g4
 try generalize (!a0_7 == 0 || (!a0_8 == 0 || !a0_9 == 0)) = g5
 try generalize (a0_10 != 0) = g6
 try generalize (a0_11 != 0) = g7
 (try cases z) <;> (try cases e1) <;> (try cases g0) <;> (try cases g1) <;> (try cases g2) <;> (try cases g3) <;> (try cases g4) <;> (try cases g5) <;> (try cases g6) <;> (try cases g7) <;> rfl
theorem own_3 (a0_1 : Int) (a0_2 : Int) (l0_3 : List (List (S79))) (l0_4 : List ByteArray) (l0_5 : List Int) (l0_6 : List (S43)) (a0_7 : Int) (a0_8 : Int) (a0_9 : Int) (a0_10 : Int) (a0_11 : Int) : ownB 3 a0_1 a0_2 l0_3 l0_4 l0_5 l0_6 a0_7 a0_8 a0_9 a0_10 a0_11 = (if (l0_3.length : Int) > 0 then ((l0_4.length : Int) == (l0_3.length : Int)) else false) := by
 unfold ownB
 have h : plan_own.f 1 3 a0_1 a0_2 l0_3 l0_4 l0_5 l0_6 a0_7 a0_8 a0_9 a0_10 a0_11 = some (if (l0_3.length : Int) > 0 then ((l0_4.length : Int) == (l0_3.length : Int)) else false) := by
  simp only [plan_own.f, plan_own.j0, window_Check.f, colB_f, Option.bind_some, win_own, win_own2]
  simp
  repeat' first | rfl | (simp [*]; done) | split
 rw [h]; rfl
theorem ok_3 (a0_1 : Int) (a0_2 : Int) (l0_3 : List (List (S79))) (l0_4 : List ByteArray) (l0_5 : List Int) (l0_6 : List (S43)) (a0_7 : Int) (a0_8 : Int) (a0_9 : Int) (a0_10 : Int) (a0_11 : Int) : okB 3 a0_1 a0_2 l0_3 l0_4 l0_5 l0_6 a0_7 a0_8 a0_9 a0_10 a0_11 = (!(a0_2 != 0) && (!(a0_11 != 0) && (!(a0_10 != 0) && (!(decide (0 < l0_6.length)) && (!(decide (0 < l0_5.length)) && (!(!a0_7 == 0 || (!a0_8 == 0 || !a0_9 == 0)) && (!((l0_3.length : Int) == 0) && (!((l0_3.length : Int) != (l0_4.length : Int)) && (listsR l0_4 l0_5 l0_6))))))))) := by
 unfold okB specB
 rw [show fieldsT 3 = (false, true, true, false, false, false, false, false) from rfl, own_3, ← listsR_eq]
 unfold spareB
 simp only [List.zip_cons_cons, List.zip_nil_left, List.any_cons, List.any_nil, Bool.or_false, Bool.not_false, Bool.not_true, Bool.and_true, Bool.and_false, Bool.false_or, rmay_eq, rcol_eq]
 generalize (listsR l0_4 l0_5 l0_6) = z
 have e2 : (if (l0_3.length : Int) > 0 then ((l0_4.length : Int) == (l0_3.length : Int)) else false) = (!((l0_3.length : Int) == 0) && !((l0_3.length : Int) != (l0_4.length : Int))) := by
  by_cases q : (l0_3.length : Int) > 0
  ·rw [if_pos q, show ((l0_3.length : Int) == 0) = false from beq_eq_false_iff_ne.2 (by omega)]
   by_cases q2 : (l0_3.length : Int) = (l0_4.length : Int)
   ·rw [q2]; simp
   ·rw [show ((l0_4.length : Int) == (l0_3.length : Int)) = false from beq_eq_false_iff_ne.2 (fun h => q2 h.symm), show ((l0_3.length : Int) != (l0_4.length : Int)) = true from bne_iff_ne.2 q2]; rfl
  ·rw [if_neg q, show ((l0_3.length : Int) == 0) = true from beq_iff_eq.2 (by omega)]; rfl
 rw [e2]
 generalize ((l0_3.length : Int) == 0) = e3
 generalize ((l0_3.length : Int) != (l0_4.length : Int)) = e4
 try generalize (a0_2 != 0) = g0
 try generalize (decide (0 < l0_3.length)) = g1
 try generalize (decide (0 < l0_4.length)) = g2
 try generalize (decide (0 < l0_5.length)) = g3
 try generalize (decide (0 < l0_6.length)) = g4
 try generalize (!a0_7 == 0 || (!a0_8 == 0 || !a0_9 == 0)) = g5
 try generalize (a0_10 != 0) = g6
 try generalize (a0_11 != 0) = g7
 (try cases z) <;> (try cases e3) <;> (try cases e4) <;> (try cases g0) <;> (try cases g1) <;> (try cases g2) <;> (try cases g3) <;> (try cases g4) <;> (try cases g5) <;> (try cases g6) <;> (try cases g7) <;> rfl
theorem own_4 (a0_1 : Int) (a0_2 : Int) (l0_3 : List (List (S79))) (l0_4 : List ByteArray) (l0_5 : List Int) (l0_6 : List (S43)) (a0_7 : Int) (a0_8 : Int) (a0_9 : Int) (a0_10 : Int) (a0_11 : Int) : ownB 4 a0_1 a0_2 l0_3 l0_4 l0_5 l0_6 a0_7 a0_8 a0_9 a0_10 a0_11 = true := by
 unfold ownB
 have h : plan_own.f 1 4 a0_1 a0_2 l0_3 l0_4 l0_5 l0_6 a0_7 a0_8 a0_9 a0_10 a0_11 = some true := by
  simp only [plan_own.f, plan_own.j0, window_Check.f, colB_f, Option.bind_some, win_own, win_own2]
  simp
 rw [h]; rfl
theorem ok_4 (a0_1 : Int) (a0_2 : Int) (l0_3 : List (List (S79))) (l0_4 : List ByteArray) (l0_5 : List Int) (l0_6 : List (S43)) (a0_7 : Int) (a0_8 : Int) (a0_9 : Int) (a0_10 : Int) (a0_11 : Int) : okB 4 a0_1 a0_2 l0_3 l0_4 l0_5 l0_6 a0_7 a0_8 a0_9 a0_10 a0_11 = (!(a0_11 != 0) && (!(a0_10 != 0) && (!(decide (0 < l0_4.length)) && (!(decide (0 < l0_6.length)) && (!(decide (0 < l0_5.length)) && (!(!a0_7 == 0 || (!a0_8 == 0 || !a0_9 == 0)) && (!(decide (0 < l0_3.length)) && (listsR l0_4 l0_5 l0_6)))))))) := by
 unfold okB specB
 rw [show fieldsT 4 = (true, false, false, false, false, false, false, false) from rfl, own_4, ← listsR_eq]
 unfold spareB
 simp only [List.zip_cons_cons, List.zip_nil_left, List.any_cons, List.any_nil, Bool.or_false, Bool.not_false, Bool.not_true, Bool.and_true, Bool.and_false, Bool.false_or, rmay_eq, rcol_eq]
 generalize (listsR l0_4 l0_5 l0_6) = z
 try generalize (a0_2 != 0) = g0
 try generalize (decide (0 < l0_3.length)) = g1
 try generalize (decide (0 < l0_4.length)) = g2
 try generalize (decide (0 < l0_5.length)) = g3
 try generalize (decide (0 < l0_6.length)) = g4
 try generalize (!a0_7 == 0 || (!a0_8 == 0 || !a0_9 == 0)) = g5
 try generalize (a0_10 != 0) = g6
 try generalize (a0_11 != 0) = g7
 (try cases z) <;> (try cases g0) <;> (try cases g1) <;> (try cases g2) <;> (try cases g3) <;> (try cases g4) <;> (try cases g5) <;> (try cases g6) <;> (try cases g7) <;> rfl
theorem own_5 (a0_1 : Int) (a0_2 : Int) (l0_3 : List (List (S79))) (l0_4 : List ByteArray) (l0_5 : List Int) (l0_6 : List (S43)) (a0_7 : Int) (a0_8 : Int) (a0_9 : Int) (a0_10 : Int) (a0_11 : Int) : ownB 5 a0_1 a0_2 l0_3 l0_4 l0_5 l0_6 a0_7 a0_8 a0_9 a0_10 a0_11 = ((l0_3.length : Int) == 1) := by
 unfold ownB
 have h : plan_own.f 1 5 a0_1 a0_2 l0_3 l0_4 l0_5 l0_6 a0_7 a0_8 a0_9 a0_10 a0_11 = some ((l0_3.length : Int) == 1) := by
  simp only [plan_own.f, plan_own.j0, window_Check.f, colB_f, Option.bind_some, win_own, win_own2]
  simp
 rw [h]; rfl
theorem ok_5 (a0_1 : Int) (a0_2 : Int) (l0_3 : List (List (S79))) (l0_4 : List ByteArray) (l0_5 : List Int) (l0_6 : List (S43)) (a0_7 : Int) (a0_8 : Int) (a0_9 : Int) (a0_10 : Int) (a0_11 : Int) : okB 5 a0_1 a0_2 l0_3 l0_4 l0_5 l0_6 a0_7 a0_8 a0_9 a0_10 a0_11 = (!(a0_11 != 0) && (!(a0_10 != 0) && (!(decide (0 < l0_4.length)) && (!(decide (0 < l0_6.length)) && (!(decide (0 < l0_5.length)) && (!(!a0_7 == 0 || (!a0_8 == 0 || !a0_9 == 0)) && (!((l0_3.length : Int) != 1) && (listsR l0_4 l0_5 l0_6)))))))) := by
 unfold okB specB
 rw [show fieldsT 5 = (true, true, false, false, false, false, false, false) from rfl, own_5, ← listsR_eq]
 unfold spareB
 simp only [List.zip_cons_cons, List.zip_nil_left, List.any_cons, List.any_nil, Bool.or_false, Bool.not_false, Bool.not_true, Bool.and_true, Bool.and_false, Bool.false_or, rmay_eq, rcol_eq]
 generalize (listsR l0_4 l0_5 l0_6) = z
 rw [show ((l0_3.length : Int) != 1) = !((l0_3.length : Int) == 1) from rfl]
 generalize ((l0_3.length : Int) == 1) = e1
 try generalize (a0_2 != 0) = g0
 try generalize (decide (0 < l0_3.length)) = g1
 try generalize (decide (0 < l0_4.length)) = g2
 try generalize (decide (0 < l0_5.length)) = g3
 try generalize (decide (0 < l0_6.length)) = g4
 try generalize (!a0_7 == 0 || (!a0_8 == 0 || !a0_9 == 0)) = g5
 try generalize (a0_10 != 0) = g6
 try generalize (a0_11 != 0) = g7
 (try cases z) <;> (try cases e1) <;> (try cases g0) <;> (try cases g1) <;> (try cases g2) <;> (try cases g3) <;> (try cases g4) <;> (try cases g5) <;> (try cases g6) <;> (try cases g7) <;> rfl
theorem own_6 (a0_1 : Int) (a0_2 : Int) (l0_3 : List (List (S79))) (l0_4 : List ByteArray) (l0_5 : List Int) (l0_6 : List (S43)) (a0_7 : Int) (a0_8 : Int) (a0_9 : Int) (a0_10 : Int) (a0_11 : Int) : ownB 6 a0_1 a0_2 l0_3 l0_4 l0_5 l0_6 a0_7 a0_8 a0_9 a0_10 a0_11 = ((l0_3.length : Int) == 1) := by
 unfold ownB
 have h : plan_own.f 1 6 a0_1 a0_2 l0_3 l0_4 l0_5 l0_6 a0_7 a0_8 a0_9 a0_10 a0_11 = some ((l0_3.length : Int) == 1) := by
  simp only [plan_own.f, plan_own.j0, window_Check.f, colB_f, Option.bind_some, win_own, win_own2]
  simp
 rw [h]; rfl
theorem ok_6 (a0_1 : Int) (a0_2 : Int) (l0_3 : List (List (S79))) (l0_4 : List ByteArray) (l0_5 : List Int) (l0_6 : List (S43)) (a0_7 : Int) (a0_8 : Int) (a0_9 : Int) (a0_10 : Int) (a0_11 : Int) : okB 6 a0_1 a0_2 l0_3 l0_4 l0_5 l0_6 a0_7 a0_8 a0_9 a0_10 a0_11 = (!(a0_11 != 0) && (!(a0_10 != 0) && (!(decide (0 < l0_4.length)) && (!(decide (0 < l0_6.length)) && (!(decide (0 < l0_5.length)) && (!(!a0_7 == 0 || (!a0_8 == 0 || !a0_9 == 0)) && (!((l0_3.length : Int) != 1) && (listsR l0_4 l0_5 l0_6)))))))) := by
 unfold okB specB
 rw [show fieldsT 6 = (true, true, false, false, false, false, false, false) from rfl, own_6, ← listsR_eq]
 unfold spareB
 simp only [List.zip_cons_cons, List.zip_nil_left, List.any_cons, List.any_nil, Bool.or_false, Bool.not_false, Bool.not_true, Bool.and_true, Bool.and_false, Bool.false_or, rmay_eq, rcol_eq]
 generalize (listsR l0_4 l0_5 l0_6) = z
 rw [show ((l0_3.length : Int) != 1) = !((l0_3.length : Int) == 1) from rfl]
 generalize ((l0_3.length : Int) == 1) = e1
 try generalize (a0_2 != 0) = g0
 try generalize (decide (0 < l0_3.length)) = g1
 try generalize (decide (0 < l0_4.length)) = g2
 try generalize (decide (0 < l0_5.length)) = g3
 try generalize (decide (0 < l0_6.length)) = g4
 try generalize (!a0_7 == 0 || (!a0_8 == 0 || !a0_9 == 0)) = g5
 try generalize (a0_10 != 0) = g6
 try generalize (a0_11 != 0) = g7
 (try cases z) <;> (try cases e1) <;> (try cases g0) <;> (try cases g1) <;> (try cases g2) <;> (try cases g3) <;> (try cases g4) <;> (try cases g5) <;> (try cases g6) <;> (try cases g7) <;> rfl
theorem own_7 (a0_1 : Int) (a0_2 : Int) (l0_3 : List (List (S79))) (l0_4 : List ByteArray) (l0_5 : List Int) (l0_6 : List (S43)) (a0_7 : Int) (a0_8 : Int) (a0_9 : Int) (a0_10 : Int) (a0_11 : Int) : ownB 7 a0_1 a0_2 l0_3 l0_4 l0_5 l0_6 a0_7 a0_8 a0_9 a0_10 a0_11 = (if a0_10 ≥ 1 then decide (a0_10 ≤ 1099511627776) else false) := by
 unfold ownB
 have h : plan_own.f 1 7 a0_1 a0_2 l0_3 l0_4 l0_5 l0_6 a0_7 a0_8 a0_9 a0_10 a0_11 = some (if a0_10 ≥ 1 then decide (a0_10 ≤ 1099511627776) else false) := by
  simp only [plan_own.f, plan_own.j0, window_Check.f, colB_f, Option.bind_some, win_own, win_own2]
  simp
  repeat' first | rfl | (simp [*]; done) | split
 rw [h]; rfl
theorem ok_7 (a0_1 : Int) (a0_2 : Int) (l0_3 : List (List (S79))) (l0_4 : List ByteArray) (l0_5 : List Int) (l0_6 : List (S43)) (a0_7 : Int) (a0_8 : Int) (a0_9 : Int) (a0_10 : Int) (a0_11 : Int) : okB 7 a0_1 a0_2 l0_3 l0_4 l0_5 l0_6 a0_7 a0_8 a0_9 a0_10 a0_11 = (!(a0_2 != 0) && (!(a0_11 != 0) && (!(decide (0 < l0_4.length)) && (!(decide (0 < l0_6.length)) && (!(decide (0 < l0_5.length)) && (!(!a0_7 == 0 || (!a0_8 == 0 || !a0_9 == 0)) && (!(decide (0 < l0_3.length)) && (!(decide (a0_10 < 1)) && (!(decide (a0_10 > 1099511627776)) && (listsR l0_4 l0_5 l0_6)))))))))) := by
 unfold okB specB
 rw [show fieldsT 7 = (false, false, false, false, false, false, true, false) from rfl, own_7, ← listsR_eq]
 unfold spareB
 simp only [List.zip_cons_cons, List.zip_nil_left, List.any_cons, List.any_nil, Bool.or_false, Bool.not_false, Bool.not_true, Bool.and_true, Bool.and_false, Bool.false_or, rmay_eq, rcol_eq]
 generalize (listsR l0_4 l0_5 l0_6) = z
 have e2 : (if a0_10 ≥ 1 then decide (a0_10 ≤ 1099511627776) else false) = (!decide (a0_10 < 1) && !decide (a0_10 > 1099511627776)) := by
  by_cases q : a0_10 ≥ 1
  ·by_cases q2 : a0_10 ≤ 1099511627776
   ·simp [q, q2, show ¬ a0_10 < 1 from by omega, show ¬ 1099511627776 < a0_10 from by omega]
   ·simp [q, q2, show ¬ a0_10 < 1 from by omega, show 1099511627776 < a0_10 from by omega]
  ·simp [q, show a0_10 < 1 from by omega]
 rw [e2]
 generalize (decide (a0_10 < 1)) = e3
 generalize (decide (a0_10 > 1099511627776)) = e4
 try generalize (a0_2 != 0) = g0
 try generalize (decide (0 < l0_3.length)) = g1
 try generalize (decide (0 < l0_4.length)) = g2
 try generalize (decide (0 < l0_5.length)) = g3
 try generalize (decide (0 < l0_6.length)) = g4
 try generalize (!a0_7 == 0 || (!a0_8 == 0 || !a0_9 == 0)) = g5
 try generalize (a0_10 != 0) = g6
 try generalize (a0_11 != 0) = g7
 (try cases z) <;> (try cases e3) <;> (try cases e4) <;> (try cases g0) <;> (try cases g1) <;> (try cases g2) <;> (try cases g3) <;> (try cases g4) <;> (try cases g5) <;> (try cases g6) <;> (try cases g7) <;> rfl
theorem own_8 (a0_1 : Int) (a0_2 : Int) (l0_3 : List (List (S79))) (l0_4 : List ByteArray) (l0_5 : List Int) (l0_6 : List (S43)) (a0_7 : Int) (a0_8 : Int) (a0_9 : Int) (a0_10 : Int) (a0_11 : Int) : ownB 8 a0_1 a0_2 l0_3 l0_4 l0_5 l0_6 a0_7 a0_8 a0_9 a0_10 a0_11 = (chkS a0_7 a0_8 a0_9) := by
 unfold ownB
 have h : plan_own.f 1 8 a0_1 a0_2 l0_3 l0_4 l0_5 l0_6 a0_7 a0_8 a0_9 a0_10 a0_11 = some (chkS a0_7 a0_8 a0_9) := by
  simp only [plan_own.f, plan_own.j0, window_Check.f, colB_f, Option.bind_some, win_own, win_own2]
  simp
 rw [h]; rfl
theorem ok_8 (a0_1 : Int) (a0_2 : Int) (l0_3 : List (List (S79))) (l0_4 : List ByteArray) (l0_5 : List Int) (l0_6 : List (S43)) (a0_7 : Int) (a0_8 : Int) (a0_9 : Int) (a0_10 : Int) (a0_11 : Int) : okB 8 a0_1 a0_2 l0_3 l0_4 l0_5 l0_6 a0_7 a0_8 a0_9 a0_10 a0_11 = (!(a0_2 != 0) && (!(a0_11 != 0) && (!(a0_10 != 0) && (!(decide (0 < l0_4.length)) && (!(decide (0 < l0_3.length)) && (!(!rmayB a0_7 a0_8 a0_9) && (listsR l0_4 l0_5 l0_6))))))) := by
 unfold okB specB
 rw [show fieldsT 8 = (false, false, false, true, true, true, false, false) from rfl, own_8, ← listsR_eq]
 unfold spareB
 simp only [List.zip_cons_cons, List.zip_nil_left, List.any_cons, List.any_nil, Bool.or_false, Bool.not_false, Bool.not_true, Bool.and_true, Bool.and_false, Bool.false_or, rmay_eq, rcol_eq]
 generalize (listsR l0_4 l0_5 l0_6) = z
 generalize chkS a0_7 a0_8 a0_9 = e6
 try generalize (a0_2 != 0) = g0
 try generalize (decide (0 < l0_3.length)) = g1
 try generalize (decide (0 < l0_4.length)) = g2
 try generalize (decide (0 < l0_5.length)) = g3
 try generalize (decide (0 < l0_6.length)) = g4
 try generalize (!a0_7 == 0 || (!a0_8 == 0 || !a0_9 == 0)) = g5
 try generalize (a0_10 != 0) = g6
 try generalize (a0_11 != 0) = g7
 (try cases z) <;> (try cases e6) <;> (try cases g0) <;> (try cases g1) <;> (try cases g2) <;> (try cases g3) <;> (try cases g4) <;> (try cases g5) <;> (try cases g6) <;> (try cases g7) <;> rfl
theorem own_9 (a0_1 : Int) (a0_2 : Int) (l0_3 : List (List (S79))) (l0_4 : List ByteArray) (l0_5 : List Int) (l0_6 : List (S43)) (a0_7 : Int) (a0_8 : Int) (a0_9 : Int) (a0_10 : Int) (a0_11 : Int) : ownB 9 a0_1 a0_2 l0_3 l0_4 l0_5 l0_6 a0_7 a0_8 a0_9 a0_10 a0_11 = (if chkS a0_7 a0_8 a0_9 = true then (if a0_10 ≥ 1 then (if a0_10 ≤ 64 then colB a0_11 else false) else false) else false) := by
 unfold ownB
 have h : plan_own.f 1 9 a0_1 a0_2 l0_3 l0_4 l0_5 l0_6 a0_7 a0_8 a0_9 a0_10 a0_11 = some (if chkS a0_7 a0_8 a0_9 = true then (if a0_10 ≥ 1 then (if a0_10 ≤ 64 then colB a0_11 else false) else false) else false) := by
  simp only [plan_own.f, plan_own.j0, window_Check.f, colB_f, Option.bind_some, win_own, win_own2]
  simp
  repeat' first | rfl | (simp [*]; done) | split
 rw [h]; rfl
theorem ok_9 (a0_1 : Int) (a0_2 : Int) (l0_3 : List (List (S79))) (l0_4 : List ByteArray) (l0_5 : List Int) (l0_6 : List (S43)) (a0_7 : Int) (a0_8 : Int) (a0_9 : Int) (a0_10 : Int) (a0_11 : Int) : okB 9 a0_1 a0_2 l0_3 l0_4 l0_5 l0_6 a0_7 a0_8 a0_9 a0_10 a0_11 = (!(a0_2 != 0) && (!(decide (0 < l0_4.length)) && (!(decide (0 < l0_6.length)) && (!(decide (0 < l0_3.length)) && (!(decide (a0_10 < 1)) && (!(decide (a0_10 > 64)) && (!(!rcolB a0_11) && (!(!rmayB a0_7 a0_8 a0_9) && (listsR l0_4 l0_5 l0_6))))))))) := by
 unfold okB specB
 rw [show fieldsT 9 = (false, false, false, true, false, true, true, true) from rfl, own_9, ← listsR_eq]
 unfold spareB
 simp only [List.zip_cons_cons, List.zip_nil_left, List.any_cons, List.any_nil, Bool.or_false, Bool.not_false, Bool.not_true, Bool.and_true, Bool.and_false, Bool.false_or, rmay_eq, rcol_eq]
 generalize (listsR l0_4 l0_5 l0_6) = z
 have e2 : (if chkS a0_7 a0_8 a0_9 = true then (if a0_10 ≥ 1 then (if a0_10 ≤ 64 then colB a0_11 else false) else false) else false) = (!decide (a0_10 < 1) && (!decide (a0_10 > 64) && (colB a0_11 && chkS a0_7 a0_8 a0_9))) := by
  by_cases q : a0_10 ≥ 1
  ·by_cases q2 : a0_10 ≤ 64
   ·cases chkS a0_7 a0_8 a0_9 <;> simp [q, q2, show ¬ a0_10 < 1 from by omega, show ¬ 64 < a0_10 from by omega]
   ·cases chkS a0_7 a0_8 a0_9 <;> simp [q, q2, show ¬ a0_10 < 1 from by omega, show 64 < a0_10 from by omega]
  ·cases chkS a0_7 a0_8 a0_9 <;> simp [q, show a0_10 < 1 from by omega]
 rw [e2]
 generalize (decide (a0_10 < 1)) = e3
 generalize (decide (a0_10 > 64)) = e4
 generalize colB a0_11 = e5
 generalize chkS a0_7 a0_8 a0_9 = e6
 try generalize (a0_2 != 0) = g0
 try generalize (decide (0 < l0_3.length)) = g1
 try generalize (decide (0 < l0_4.length)) = g2
 try generalize (decide (0 < l0_5.length)) = g3
 try generalize (decide (0 < l0_6.length)) = g4
 try generalize (!a0_7 == 0 || (!a0_8 == 0 || !a0_9 == 0)) = g5
 try generalize (a0_10 != 0) = g6
 try generalize (a0_11 != 0) = g7
 (try cases z) <;> (try cases e3) <;> (try cases e4) <;> (try cases e5) <;> (try cases e6) <;> (try cases g0) <;> (try cases g1) <;> (try cases g2) <;> (try cases g3) <;> (try cases g4) <;> (try cases g5) <;> (try cases g6) <;> (try cases g7) <;> rfl
end Go.Proofs.Ytpidiibhgfjemaa.PLh
end
section
namespace Go.Proofs.Ytpidiibhgfjemaa.PLi
end Go.Proofs.Ytpidiibhgfjemaa.PLi
end
section
namespace Go.Proofs.Ytpidiibhgfjemaa.PLn
open Go.Proofs.Ytpidiibhgfjemaa.PLg Go.Proofs.Ytpidiibhgfjemaa.PLh Go.Proofs.Ytpidiibhgfjemaa.PLo Go.Proofs.Ytpidiibhgfjemaa.PLi
open Go.RowKit Go.Proofs.YtpidiibhgfjemaaW.PrintWords Go.Proofs.YtpidiibhgfjemaaW.PrintLast Go.Proofs.YtpidiibhgfjemaaW.PrintMore
attribute [local go_sem] max2_int min2_int max_two min_two max_three min_three max_four min_four
set_option linter.unusedVariables false
set_option linter.unusedSimpArgs false
end Go.Proofs.Ytpidiibhgfjemaa.PLn
end
section
namespace Go.Proofs.Ytpidiibhgfjemaa.PLn
open Go.Proofs.Ytpidiibhgfjemaa.PLg Go.Proofs.Ytpidiibhgfjemaa.PLh Go.Proofs.Ytpidiibhgfjemaa.PLo Go.Proofs.Ytpidiibhgfjemaa.PLi
open Go.RowKit Go.Proofs.YtpidiibhgfjemaaW.PrintWords Go.Proofs.YtpidiibhgfjemaaW.PrintLast Go.Proofs.YtpidiibhgfjemaaW.PrintMore
attribute [local go_sem] max2_int min2_int max_two min_two max_three min_three max_four min_four
set_option linter.unusedVariables false
set_option linter.unusedSimpArgs false
end Go.Proofs.Ytpidiibhgfjemaa.PLn
end
section
namespace Go.Proofs.Ytpidiibhgfjemaa.PLn
open Go.Proofs.Ytpidiibhgfjemaa.PLg Go.Proofs.Ytpidiibhgfjemaa.PLh Go.Proofs.Ytpidiibhgfjemaa.PLo Go.Proofs.Ytpidiibhgfjemaa.PLi
open Go.RowKit Go.Proofs.YtpidiibhgfjemaaW.PrintWords Go.Proofs.YtpidiibhgfjemaaW.PrintLast Go.Proofs.YtpidiibhgfjemaaW.PrintMore
attribute [local go_sem] max2_int min2_int max_two min_two max_three min_three max_four min_four
set_option linter.unusedVariables false
set_option linter.unusedSimpArgs false
end Go.Proofs.Ytpidiibhgfjemaa.PLn
end
section
namespace Go.Proofs.Ytpidiibhgfjemaa.PLn
open Go.Proofs.Ytpidiibhgfjemaa.PLg Go.Proofs.Ytpidiibhgfjemaa.PLh Go.Proofs.Ytpidiibhgfjemaa.PLo Go.Proofs.Ytpidiibhgfjemaa.PLi
open Go.RowKit Go.Proofs.YtpidiibhgfjemaaW.PrintWords Go.Proofs.YtpidiibhgfjemaaW.PrintLast Go.Proofs.YtpidiibhgfjemaaW.PrintMore
attribute [local go_sem] max2_int min2_int max_two min_two max_three min_three max_four min_four
set_option linter.unusedVariables false
set_option linter.unusedSimpArgs false
end Go.Proofs.Ytpidiibhgfjemaa.PLn
end
section
namespace Go.Proofs.Ytpidiibhgfjemaa.PLn
open Go.Proofs.Ytpidiibhgfjemaa.PLg Go.Proofs.Ytpidiibhgfjemaa.PLh Go.Proofs.Ytpidiibhgfjemaa.PLo Go.Proofs.Ytpidiibhgfjemaa.PLi
open Go.RowKit Go.Proofs.YtpidiibhgfjemaaW.PrintWords Go.Proofs.YtpidiibhgfjemaaW.PrintLast Go.Proofs.YtpidiibhgfjemaaW.PrintMore
attribute [local go_sem] max2_int min2_int max_two min_two max_three min_three max_four min_four
set_option linter.unusedVariables false
set_option linter.unusedSimpArgs false
end Go.Proofs.Ytpidiibhgfjemaa.PLn
end
section
namespace Go.Proofs.Ytpidiibhgfjemaa.Run
open Go Go.RowKit
set_option linter.unusedVariables false
structure Grow (B : Nat) (I : World → Prop) : Prop where
 below : ∀ {W W' : World}, I W → Below W.heap.size W W' → I W'
 put : ∀ {W : World} {l : Nat} {o : Obj} (o' : Obj), I W → B ≤ l → W.heap[l]? = some o → o.isCells = false → I (W.putObj l o')
theorem Grow.alloc {B : Nat} {I : World → Prop} (h : Grow B I) {W : World} (o : Obj) (hi : I W) : I (W.alloc o) := h.below hi ((Below.refl _ W).alloc (Nat.le_refl _) o)
theorem Grow.and {B : Nat} {I J : World → Prop} (h : Grow B I) (k : Grow B J) : Grow B (fun W => I W ∧ J W) :=
 ⟨fun hi hb => ⟨h.below hi.1 hb, k.below hi.2 hb⟩, fun o' hi hl ho hc => ⟨h.put o' hi.1 hl ho hc, k.put o' hi.2 hl ho hc⟩⟩
theorem Grow.const (B : Nat) (p : Prop) : Grow B (fun _ => p) := ⟨fun h _ => h, fun _ h _ _ _ => h⟩
theorem Grow.ex {B : Nat} {α : Sort _} {I : α → World → Prop} (h : ∀ x, Grow B (I x)) : Grow B (fun W => ∃ x, I x W) :=
 ⟨fun ⟨x, hi⟩ hb => ⟨x, (h x).below hi hb⟩, fun o' ⟨x, hi⟩ hl ho hc => ⟨x, (h x).put o' hi hl ho hc⟩⟩
theorem Grow.mono {B B' : Nat} {I : World → Prop} (h : Grow B I) (hB : B ≤ B') : Grow B' I := ⟨fun a b => h.below a b, fun o' a b c d => h.put o' a (Nat.le_trans hB b) c d⟩
theorem Grow.cell (B : Nat) (a : Addr) (v : Value) : Grow B (fun W => W.cell? a = some v) := by
 refine ⟨fun {W W'} h hb => ?_, fun {W l o} o' h hl ho hc => ?_⟩
 ·exact (hb.cell (World.block_lt_of_cell? W _ h)).trans h
 ·exact cell_kept h (grownBy_putObj' W l o') (fun r e => by cases e; exact ⟨o, ho, hc⟩)
theorem Grow.lt (B b : Nat) : Grow B (fun W => b < W.heap.size) := ⟨fun h hb => Nat.lt_of_lt_of_le h hb.size, fun {W l o} o' h hl ho hc => by rw [World.putObj_size]; exact h⟩
theorem below_put {n B : Nat} (hn : n ≤ B) {a W : World} {l : Nat} (o' : Obj) (h : Below n a W) (hl : B ≤ l) : Below n a (W.putObj l o') :=
 ⟨h.os, h.tape, h.output, by rw [World.putObj_size]; exact h.size, fun k hk => (World.putObj_heap_other (by omega)).trans (h.block k hk)⟩
theorem Grow.base {n B : Nat} (hn : n ≤ B) (a : World) (ha : n ≤ a.heap.size) : Grow B (fun W => Below n a W) :=
 ⟨fun h hb => h.trans (hb.mono (Nat.le_trans ha h.size)), fun o' h hl _ _ => below_put hn o' h hl⟩
structure Keeps (R : Nat → Prop) (A B : World) : Prop where
 os : B.os = A.os
 tape : B.tape = A.tape
 output : B.output = A.output
 size : A.heap.size ≤ B.heap.size
 block : ∀ b, R b → B.heap[b]? = A.heap[b]?
theorem Keeps.refl (R : Nat → Prop) (A : World) : Keeps R A A := ⟨rfl, rfl, rfl, Nat.le_refl _, fun _ _ => rfl⟩
theorem Keeps.trans {R : Nat → Prop} {A B C : World} (h : Keeps R A B) (k : Keeps R B C) : Keeps R A C :=
 ⟨k.os.trans h.os, k.tape.trans h.tape, k.output.trans h.output, Nat.le_trans h.size k.size, fun b hb => (k.block b hb).trans (h.block b hb)⟩
theorem Keeps.of_below {R : Nat → Prop} {n : Nat} {A B : World} (h : Below n A B) (hR : ∀ b, R b → b < n) : Keeps R A B := ⟨h.os, h.tape, h.output, h.size, fun b hb => h.block b (hR b hb)⟩
theorem Keeps.below {R : Nat → Prop} {n : Nat} {A B : World} (h : Keeps R A B) (hR : ∀ b, b < n → R b) : Below n A B := ⟨h.os, h.tape, h.output, h.size, fun b hb => h.block b (hR b hb)⟩
theorem Keeps.cell {R : Nat → Prop} {A B : World} (h : Keeps R A B) {p : Addr} (hp : R p.block) : B.cell? p = A.cell? p := World.cell?_of_block (w := A) (h.block p.block hp)
structure Step (S S' : Nat → Prop) (A B : World) : Prop where
 os : B.os = A.os
 tape : B.tape = A.tape
 output : B.output = A.output
 size : A.heap.size ≤ B.heap.size
 keep : ∀ b, b < A.heap.size → ¬ S b → B.heap[b]? = A.heap[b]?
 sub : ∀ b, S' b → S b ∨ A.heap.size ≤ b
theorem Step.refl (S : Nat → Prop) (A : World) : Step S S A A := ⟨rfl, rfl, rfl, Nat.le_refl _, fun _ _ _ => rfl, fun _ h => .inl h⟩
theorem Step.of_below {S : Nat → Prop} {A B : World} (h : Below A.heap.size A B) : Step S S A B := ⟨h.os, h.tape, h.output, h.size, fun b hb _ => h.block b hb, fun _ h => .inl h⟩
theorem Step.trans {S S' S'' : Nat → Prop} {A B C : World} (h : Step S S' A B) (k : Step S' S'' B C) : Step S S'' A C := by
 refine ⟨k.os.trans h.os, k.tape.trans h.tape, k.output.trans h.output, Nat.le_trans h.size k.size, fun b hb hS => ?_, fun b hb => ?_⟩
 ·refine (k.keep b (Nat.lt_of_lt_of_le hb h.size) fun hS' => ?_).trans (h.keep b hb hS)
  rcases h.sub b hS' with h1 | h1
  ·exact hS h1
  ·omega
 ·rcases k.sub b hb with h1 | h1
  ·exact h.sub b h1
  ·exact .inr (Nat.le_trans h.size h1)
theorem Step.keeps {S S' R : Nat → Prop} {A B : World} (h : Step S S' A B) (hR : ∀ b, R b → b < A.heap.size ∧ ¬ S b) : Keeps R A B :=
 ⟨h.os, h.tape, h.output, h.size, fun b hb => h.keep b (hR b hb).1 (hR b hb).2⟩
theorem Step.below {S S' : Nat → Prop} {n : Nat} {A B : World} (h : Step S S' A B) (hn : n ≤ A.heap.size) (hS : ∀ b, S b → n ≤ b) : Below n A B :=
 (h.keeps (R := fun b => b < n) fun b hb => ⟨Nat.lt_of_lt_of_le hb hn, fun hs => by have := hS b hs; omega⟩).below fun _ h => h
theorem Step.put {S : Nat → Prop} {A : World} {l : Nat} (o : Obj) (hl : S l) : Step S S A (A.putObj l o) := by
 refine ⟨rfl, rfl, rfl, by rw [World.putObj_size]; exact Nat.le_refl _, fun b hb hS => ?_, fun _ h => .inl h⟩
 exact World.putObj_heap_other (fun e => hS (by rw [e]; exact hl))
theorem Step.wide {S S' : Nat → Prop} {A B : World} (h : Step S S' A B) (T : Nat → Prop) : Step (fun b => S b ∨ T b) (fun b => S' b ∨ T b) A B := by
 refine ⟨h.os, h.tape, h.output, h.size, fun b hb hS => h.keep b hb fun hs => hS (.inl hs), fun b hb => ?_⟩
 rcases hb with hb | hb
 ·rcases h.sub b hb with h1 | h1
  ·exact .inl (.inl h1)
  ·exact .inr h1
 ·exact .inl (.inr hb)
theorem Step.narrow {S S' S'' : Nat → Prop} {A B : World} (h : Step S S' A B) (hs : ∀ b, S'' b → S' b) : Step S S'' A B := ⟨h.os, h.tape, h.output, h.size, h.keep, fun b hb => h.sub b (hs b hb)⟩
theorem Step.drop {S S' : Nat → Prop} {A B : World} {T : Nat → Prop} (h : Step (fun b => S b ∨ T b) S' A B) (hT : ∀ b, T b → A.heap.size ≤ b) : Step S S' A B := by
 refine ⟨h.os, h.tape, h.output, h.size, fun b hb hS => h.keep b hb ?_, fun b hb => ?_⟩
 ·rintro (h1 | h1)
  ·exact hS h1
  ·have := hT b h1; omega
 ·rcases h.sub b hb with (h1 | h1) | h1
  ·exact .inl h1
  ·exact .inr (hT b h1)
  ·exact .inr h1
theorem loop_below {A B : World} (h : Below A.heap.size A B) {l : Nat} {o : Obj} (hl : A.heap[l]? = some o) : B.heap[l]? = some o := (h.block l (Array.getElem?_eq_some_iff.1 hl).1).trans hl
section
variable {F : Fence} {n : Nat} {P : Program} {β : Type}
def IterOn (F : Fence) (n : Nat) (P : Program) (gf : Nat) (lb : Array Value) (items : List β) (Φ : β → Array Value → World → Prop) (R : Nat → Prop) (w0 : World) : Prop :=
 (∀ b, R b → b < w0.heap.size) ∧ ∀ (l : Nat) (J : Nat → (Nat → Prop) → World → Prop) (Jx : (Nat → Prop) → World → Prop) (S : Nat → Prop) (W : World), Keeps R w0 W → (∀ b, S b → ¬ R b ∧ b < W.heap.size) →
  (∀ k S, Grow W.heap.size (J k S)) → (∀ S, Grow W.heap.size (Jx S)) →
  (∀ k x args S1 W1, items[k]? = some x → J k S1 W1 → (∀ b, S1 b → b < W1.heap.size) → Step S S1 W W1 → Φ x args W1 → YieldAt F (n - 1) P l args W1 fun e W' =>
   (e = .returned (.bool true) ∧ ∃ S', Step S1 S' W1 W' ∧ (∀ b, S' b → b < W'.heap.size) ∧ J (k + 1) S' W') ∨ (e = .returned (.bool false) ∧ ∃ S', Step S1 S' W1 W' ∧ (∀ b, S' b → b < W'.heap.size) ∧ Jx S' W')) →
  J 0 S W → CallsIn F n P gf (#[.func (.yield l) #[] #[]] ++ lb) W fun e W' => (∃ v, e = .returned v) ∧ ∃ S', Step S S' W W' ∧ (∀ b, S' b → b < W'.heap.size) ∧ (J items.length S' W' ∨ Jx S' W')
def roundEnd (I : Nat → (Nat → Prop) → World → Prop) (Ix : Code → (Nat → Prop) → World → Prop) (S : Nat → Prop) (k : Nat) (W : World) : Exit → Act → World → Prop
 | .normal, _, W' => ∃ S', Step S S' W W' ∧ (∀ b, S' b → b < W'.heap.size) ∧ I (k + 1) S' W'
 | .ret, _, W' => ∃ S', Step S S' W W' ∧ (∀ b, S' b → b < W'.heap.size) ∧ Ix .ret S' W'
 | .exit id, _, W' => ∃ S', Step S S' W W' ∧ (∀ b, S' b → b < W'.heap.size) ∧ Ix (.exit id) S' W'
 | .goto t, _, W' => ∃ S', Step S S' W W' ∧ (∀ b, S' b → b < W'.heap.size) ∧ Ix (.goto t) S' W'
 | .panic _, _, _ => False
 | .outgrown, _, _ => False
theorem yield_round {l : Nat} {rec : LoopState → Option Code → Loop} {fn : FuncId} {tmps : Array Value} {ps : Array Tmp} {assign body : Code} {m : Nat}
  (hrec : ∃ D, rec = fun st pe => { state := st, pending := pe, fn, tmps, params := ps, assign, body, defers := D }) (hfn : F.fn fn)
  {B : Nat} (hB : B ≤ l) {I : Nat → (Nat → Prop) → World → Prop} {Ix : Code → (Nat → Prop) → World → Prop} (hI : ∀ k S, Grow B (I k S)) (hIx : ∀ c S, Grow B (Ix c S))
  {Φ : Array Value → World → Prop} (hΦ : ∀ args, Grow B (Φ args)) {Ax : Array Value → Act → World → Prop} (hAx : ∀ args a', Grow B (Ax args a'))
  (k : Nat) (S : Nat → Prop) (args : Array Value) (hargs : args.size = ps.size) (W : World) (hl : W.heap[l]? = some (.loop (rec .ready none))) (hSl : ¬ S l) (hSb : ∀ b, S b → b < W.heap.size) (hi : I k S W) (hphi : Φ args W)
  (hassign : ∀ (K : Act → World → Prop), (∀ a' W', Below W.heap.size W W' → Ax args a' W' → K a' W') →
   assign.wpIn (F.inRound l) m P (Exit.then K (fun _ _ _ => False)) { tmps := (ps.zip args).foldl (fun t (p, v) => t.setIfInBounds p v) tmps, defers := [] } W)
  (hbody : ∀ (a' : Act) (W2 : World), (∃ r, W2.heap[l]? = some (.loop r)) → Step (fun b => b = l) (fun b => b = l) W W2 → I k S W2 → Φ args W2 → Ax args a' W2 → body.wpIn (F.inRound l) m P (roundEnd I Ix S k W2) a' W2) :
  YieldAt F m P l args W fun e W' => (e = .returned (.bool true) ∧ ∃ S', Step (fun b => S b ∨ b = l) (fun b => S' b ∨ b = l) W W' ∧ (∀ b, S' b → b < W'.heap.size) ∧ ¬ S' l ∧ I (k + 1) S' W' ∧ W'.heap[l]? = some (.loop (rec .ready none))) ∨
   (e = .returned (.bool false) ∧ ∃ c S', Step (fun b => S b ∨ b = l) (fun b => S' b ∨ b = l) W W' ∧ (∀ b, S' b → b < W'.heap.size) ∧ ¬ S' l ∧ Ix c S' W' ∧ W'.heap[l]? = some (.loop (rec .done (some c)))) := by
 obtain ⟨D, rfl⟩ := hrec
 have hy := run_yield (P := P) (args := args) hl hargs
 refine ⟨fn, _, assign, body, hy, roundIn_of_wpIn hfn (hassign _ ?_)⟩
 intro a' W1 hb hax
 have hl1 := loop_below hb hl
 refine ⟨_, run_beginRound hl1 rfl, ?_⟩
 have hlt : l < W1.heap.size := (Array.getElem?_eq_some_iff.1 hl1).1
 have hl2 := World.putObj_heap_same (w := W1) (r := l) (o := .loop { state := .busy, pending := none, fn, tmps, params := ps, assign, body, defers := D }) hlt
 have T2 : ∀ S : Nat → Prop, Step (fun b => S b ∨ b = l) (fun b => S b ∨ b = l) W (W1.putObj l (.loop { state := .busy, pending := none, fn, tmps, params := ps, assign, body, defers := D })) :=
  fun S => (Step.of_below hb).trans (Step.put _ (.inr rfl))
 have T2' : Step (fun b => b = l) (fun b => b = l) W (W1.putObj l (.loop { state := .busy, pending := none, fn, tmps, params := ps, assign, body, defers := D })) := (Step.of_below hb).trans (Step.put _ rfl)
 refine wpIn_mono (hbody a' _ ⟨_, hl2⟩ T2' ((hI k S).put _ ((hI k S).below hi hb) hB hl1 rfl) ((hΦ args).put _ ((hΦ args).below hphi hb) hB hl1 rfl) ((hAx args a').put _ hax hB hl1 rfl)) ?_
 have key : ∀ {S' : Nat → Prop} {W3 : World} (o : Obj), Step S S' (W1.putObj l (.loop { state := .busy, pending := none, fn, tmps, params := ps, assign, body, defers := D })) W3 → (∀ b, S' b → b < W3.heap.size) →
   W3.heap[l]? = some (.loop { state := .busy, pending := none, fn, tmps, params := ps, assign, body, defers := D }) ∧ Step (fun b => S b ∨ b = l) (fun b => S' b ∨ b = l) W (W3.putObj l o) ∧ (∀ b, S' b → b < (W3.putObj l o).heap.size) ∧ ¬ S' l ∧ (W3.putObj l o).heap[l]? = some o := by
  intro S' W3 o hs hsb
  have hl3 := (hs.keep l (by rw [World.putObj_size]; exact hlt) hSl).trans hl2
  refine ⟨hl3, ((T2 S).trans (hs.wide _)).trans (Step.put _ (.inr rfl)), fun b hb => by rw [World.putObj_size]; exact hsb b hb, fun h => ?_, World.putObj_heap_same (Array.getElem?_eq_some_iff.1 hl3).1⟩
  rcases hs.sub l h with h1 | h1
  ·exact hSl h1
  ·rw [World.putObj_size] at h1; omega
 intro e a3 W3 hp
 cases e with
 | normal =>
  obtain ⟨S', hs, hsb, hi3⟩ := hp
  obtain ⟨hl3, q1, q2, q3, q4⟩ := key (.loop { state := .ready, pending := none, fn, tmps, params := ps, assign, body, defers := D }) hs hsb
  exact ⟨_, _, run_endRound none hl3, .inl ⟨rfl, S', q1, q2, q3, (hI _ _).put _ hi3 hB hl3 rfl, q4⟩⟩
 | ret =>
  obtain ⟨S', hs, hsb, hi3⟩ := hp
  obtain ⟨hl3, q1, q2, q3, q4⟩ := key (.loop { state := .done, pending := some .ret, fn, tmps, params := ps, assign, body, defers := D }) hs hsb
  exact ⟨_, _, run_endRound (some .ret) hl3, .inr ⟨rfl, .ret, S', q1, q2, q3, (hIx _ _).put _ hi3 hB hl3 rfl, q4⟩⟩
 | exit id =>
  obtain ⟨S', hs, hsb, hi3⟩ := hp
  obtain ⟨hl3, q1, q2, q3, q4⟩ := key (.loop { state := .done, pending := some (.exit id), fn, tmps, params := ps, assign, body, defers := D }) hs hsb
  exact ⟨_, _, run_endRound (some (.exit id)) hl3, .inr ⟨rfl, .exit id, S', q1, q2, q3, (hIx _ _).put _ hi3 hB hl3 rfl, q4⟩⟩
 | goto t =>
  obtain ⟨S', hs, hsb, hi3⟩ := hp
  obtain ⟨hl3, q1, q2, q3, q4⟩ := key (.loop { state := .done, pending := some (.goto t), fn, tmps, params := ps, assign, body, defers := D }) hs hsb
  exact ⟨_, _, run_endRound (some (.goto t)) hl3, .inr ⟨rfl, .goto t, S', q1, q2, q3, (hIx _ _).put _ hi3 hB hl3 rfl, q4⟩⟩
 | panic ch => exact hp.elim
 | outgrown => exact hp.elim
theorem range_outer {g : Operand} {ps : Array Tmp} {assign body : Code} {Q : Exit → Act → World → Prop} {a : Act} {w : World}
  (hro : F.round = none) (h1 : 1 ≤ n) {gf : Nat} {lb : Array Value} (hg : a.eval g = .func (.func gf) #[] lb) (hFg : F.fn gf) (eg : ∀ args w, (callFunc gf args).run P w = .ok (.enter gf args) w)
  {items : List β} {Φ : β → Array Value → World → Prop} {R : Nat → Prop} {w0 : World} (hseq : IterOn F (n - 1) P gf lb items Φ R w0) (hw0 : Keeps R w0 w) (hps : ∀ x args W, Φ x args W → args.size = ps.size)
  (I : Nat → (Nat → Prop) → World → Prop) (Ix : Code → (Nat → Prop) → World → Prop) (Ax : β → Array Value → Act → World → Prop)
  (hI : ∀ k S, Grow w.heap.size (I k S)) (hIx : ∀ c S, Grow w.heap.size (Ix c S)) (hΦ : ∀ x args, Grow w.heap.size (Φ x args)) (hAx : ∀ x args a', Grow w.heap.size (Ax x args a'))
  (S0 : Nat → Prop) (hS0 : ∀ b, S0 b → ¬ R b ∧ b < w.heap.size) (h0 : I 0 S0 w)
  (hassign : ∀ (l k : Nat) (S : Nat → Prop) (x : β) (args : Array Value) (W : World) (K : Act → World → Prop), items[k]? = some x → I k S W → Φ x args W → (∀ a' W', Below W.heap.size W W' → Ax x args a' W' → K a' W') →
   assign.wpIn (F.inRound l) (n - 1 - 1) P (Exit.then K (fun _ _ _ => False)) { tmps := (ps.zip args).foldl (fun t (p, v) => t.setIfInBounds p v) a.tmps, defers := [] } W)
  (hbody : ∀ (l k : Nat) (S : Nat → Prop) (x : β) (args : Array Value) (a' : Act) (W : World), w.heap.size ≤ l → (∃ r, W.heap[l]? = some (.loop r)) → items[k]? = some x → (∀ b, S b → b < W.heap.size) → ¬ S l → Keeps R w0 W → I k S W → Φ x args W → Ax x args a' W →
   body.wpIn (F.inRound l) (n - 1 - 1) P (roundEnd I Ix S k W) a' W)
  (hdone : ∀ (D : Nat) (S : Nat → Prop) (W : World), w.heap.size ≤ D → ¬ S D → Step S0 S w W → (∀ b, S b → b < W.heap.size) → I items.length S W → W.heap[D]? = some (.deferred (some [])) → Q .normal { a with defers := { target := .collected D, args := #[] } :: a.defers } W)
  (hstop : ∀ (D : Nat) (c : Code) (S : Nat → Prop) (W : World), w.heap.size ≤ D → ¬ S D → Step S0 S w W → (∀ b, S b → b < W.heap.size) → Ix c S W → W.heap[D]? = some (.deferred (some [])) → c.wpIn F n P Q { a with defers := { target := .collected D, args := #[] } :: a.defers } W) :
  (Code.rangeFunc g ps assign body).wpIn F n P Q a w := by
 refine wpIn_rangeFunc fun fn hfn => ?_
 rw [hro]
 obtain ⟨rec, hrec⟩ : ∃ rec : LoopState → Option Code → Loop, rec = fun st pe => { state := st, pending := pe, fn, tmps := a.tmps, params := ps, assign, body, defers := w.heap.size } := ⟨_, rfl⟩
 obtain ⟨W1, hW1⟩ : ∃ W1, (w.alloc (.deferred (some []))).alloc (.loop (rec .ready none)) = W1 := ⟨_, rfl⟩
 have hsz : W1.heap.size = w.heap.size + 2 := by rw [← hW1]; simp
 have hL1 : W1.heap[w.heap.size + 1]? = some (.loop (rec .ready none)) := by
  rw [← hW1]; have := World.alloc_heap_new (w.alloc (.deferred (some []))) (.loop (rec .ready none)); rwa [World.size_alloc] at this
 have hK1 : W1.heap[w.heap.size]? = some (.deferred (some [])) := by
  rw [← hW1]; exact (Below.heap_alloc _ _ _ (by simp)).trans (World.alloc_heap_new w _)
 have hI1 : I 0 S0 W1 := by rw [← hW1]; exact (hI 0 S0).alloc _ ((hI 0 S0).alloc _ h0)
 have hb1 : Below w.heap.size w W1 := by rw [← hW1]; exact ((Below.refl _ w).alloc (Nat.le_refl _) _).alloc (by simp) _
 have hT1 : Keeps R w0 W1 := hw0.trans (Keeps.of_below hb1 fun b hb => Nat.lt_of_lt_of_le (hseq.1 b hb) hw0.size)
 have hRw : ∀ b, R b → b < w.heap.size := fun b hb => Nat.lt_of_lt_of_le (hseq.1 b hb) hw0.size
 refine ⟨w.heap.size + 1, [{ target := .collected w.heap.size, args := #[] }], W1, { target := .fn (.func gf) lb, args := #[.func (.yield (w.heap.size + 1)) #[] #[]] }, W1, gf,
  #[.func (.yield (w.heap.size + 1)) #[] #[]] ++ lb, W1, ?_, ?_, ?_, ?_, fun _ => h1, ?_⟩
 ·rw [← hW1, hrec]; exact run_enterLoop_outer _ _ _ _ _
 ·simp only [resolve, hg]
  simp [go_sem]
 ·intro f' hf'; simp [Target.leads] at hf'; subst hf'; exact hFg
 ·simp [invoke, go_sem, eg]
 have hcall := hseq.2 (w.heap.size + 1)
  (fun k S W => ∃ S', S = (fun b => S' b ∨ b = w.heap.size + 1) ∧ (¬ S' (w.heap.size + 1) ∧ Step S0 S' w W ∧ ∀ b, S' b → b < W.heap.size) ∧ I k S' W ∧ W.heap[w.heap.size + 1]? = some (.loop (rec .ready none)) ∧ ¬ S' w.heap.size ∧ W.heap[w.heap.size]? = some (.deferred (some [])))
  (fun S W => ∃ S' c, S = (fun b => S' b ∨ b = w.heap.size + 1) ∧ (¬ S' (w.heap.size + 1) ∧ Step S0 S' w W ∧ ∀ b, S' b → b < W.heap.size) ∧ Ix c S' W ∧ W.heap[w.heap.size + 1]? = some (.loop (rec .done (some c))) ∧ ¬ S' w.heap.size ∧ W.heap[w.heap.size]? = some (.deferred (some [])))
  (fun b => S0 b ∨ b = w.heap.size + 1) W1 hT1
  (fun b hb => by
   rcases hb with hb | rfl
   ·exact ⟨(hS0 b hb).1, by have := (hS0 b hb).2; omega⟩
   ·exact ⟨fun h => by have := hRw _ h; omega, by omega⟩)
  (fun k S => Grow.ex fun S' => by
   refine ⟨?_, ?_⟩
   ·rintro W W' ⟨e, ⟨n1, n2, n3⟩, hi, hl, hd, hk⟩ hb
    exact ⟨e, ⟨n1, n2.trans (Step.of_below hb), fun b hb' => Nat.lt_of_lt_of_le (n3 b hb') hb.size⟩, (hI k S').below hi hb, loop_below hb hl, hd, loop_below hb hk⟩
   ·rintro W l' o o' ⟨e, ⟨n1, n2, n3⟩, hi, hl, hd, hk⟩ hle ho hc
    refine ⟨e, ⟨n1, ?_, fun b hb' => by rw [World.putObj_size]; exact n3 b hb'⟩, (hI k S').put o' hi (by omega) ho hc, (World.putObj_heap_other (by omega)).trans hl, hd, (World.putObj_heap_other (by omega)).trans hk⟩
    exact ⟨n2.os, n2.tape, n2.output, by rw [World.putObj_size]; exact n2.size, fun b hb hS => (World.putObj_heap_other (by omega)).trans (n2.keep b hb hS), n2.sub⟩)
  (fun S => Grow.ex fun S' => Grow.ex fun c => by
   refine ⟨?_, ?_⟩
   ·rintro W W' ⟨e, ⟨n1, n2, n3⟩, hi, hl, hd, hk⟩ hb
    exact ⟨e, ⟨n1, n2.trans (Step.of_below hb), fun b hb' => Nat.lt_of_lt_of_le (n3 b hb') hb.size⟩, (hIx c S').below hi hb, loop_below hb hl, hd, loop_below hb hk⟩
   ·rintro W l' o o' ⟨e, ⟨n1, n2, n3⟩, hi, hl, hd, hk⟩ hle ho hc
    refine ⟨e, ⟨n1, ?_, fun b hb' => by rw [World.putObj_size]; exact n3 b hb'⟩, (hIx c S').put o' hi (by omega) ho hc, (World.putObj_heap_other (by omega)).trans hl, hd, (World.putObj_heap_other (by omega)).trans hk⟩
    exact ⟨n2.os, n2.tape, n2.output, by rw [World.putObj_size]; exact n2.size, fun b hb hS => (World.putObj_heap_other (by omega)).trans (n2.keep b hb hS), n2.sub⟩)
  (by
   rintro k x args S1 W hx ⟨S', rfl, ⟨n1, n2, n3⟩, hi, hl, hd, hk⟩ hsb hst hphi
   have hkr : Keeps R w0 W := hT1.trans (hst.keeps fun b hb => ⟨by have := hRw b hb; omega, by
    rintro (h | h)
    ·exact (hS0 b h).1 hb
    ·have := hRw b hb; omega⟩)
   refine (yield_round (B := w.heap.size) (rec := rec) ⟨w.heap.size, hrec⟩ hfn (Nat.le_succ _) hI hIx (hΦ x) (hAx x) k S' args (hps x args W hphi) W hl n1 n3 hi hphi
    (fun K hK => hassign _ k S' x args W K hx hi hphi hK)
    (fun a' W2 hr h12 hi2 hphi2 hax => hbody _ k S' x args a' W2 (Nat.le_succ _) hr hx (fun b hb => Nat.lt_of_lt_of_le (n3 b hb) h12.size) n1
     (hkr.trans (h12.keeps fun b hb => ⟨by have := hRw b hb; have := n2.size; omega, fun e => by have := hRw b hb; omega⟩)) hi2 hphi2 hax)).mono ?_
   have hlt : w.heap.size < W.heap.size := (Array.getElem?_eq_some_iff.1 hk).1
   rintro e W' (⟨rfl, S'', hs, hsb', hn, hi', hl'⟩ | ⟨rfl, c, S'', hs, hsb', hn, hi', hl'⟩)
   ·have hd' : ¬ S'' w.heap.size := fun h => by
     rcases hs.sub _ (.inl h) with (h1 | h1) | h1
     ·exact hd h1
     ·omega
     ·omega
    have hl1' : w.heap.size + 1 < W'.heap.size := (Array.getElem?_eq_some_iff.1 hl').1
    refine .inl ⟨rfl, _, hs, ?_, S'', rfl, ⟨hn, ?_, hsb'⟩, hi', hl', hd', (hs.keep _ hlt (by rintro (h | h); exact hd h; omega)).trans hk⟩
    ·rintro b (h | rfl)
     ·exact hsb' b h
     ·exact hl1'
    ·have hst2 : Step S0 (fun b => S'' b ∨ b = w.heap.size + 1) w W' := Step.drop (T := fun b => b = w.heap.size + 1) ((n2.wide _).trans hs) (fun b e => by omega)
     exact hst2.narrow fun b hb => .inl hb
   ·have hd' : ¬ S'' w.heap.size := fun h => by
     rcases hs.sub _ (.inl h) with (h1 | h1) | h1
     ·exact hd h1
     ·omega
     ·omega
    have hl1' : w.heap.size + 1 < W'.heap.size := (Array.getElem?_eq_some_iff.1 hl').1
    refine .inr ⟨rfl, _, hs, ?_, S'', c, rfl, ⟨hn, ?_, hsb'⟩, hi', hl', hd', (hs.keep _ hlt (by rintro (h | h); exact hd h; omega)).trans hk⟩
    ·rintro b (h | rfl)
     ·exact hsb' b h
     ·exact hl1'
    ·have hst2 : Step S0 (fun b => S'' b ∨ b = w.heap.size + 1) w W' := Step.drop (T := fun b => b = w.heap.size + 1) ((n2.wide _).trans hs) (fun b e => by omega)
     exact hst2.narrow fun b hb => .inl hb)
  ⟨S0, rfl, ⟨fun h => by have := (hS0 _ h).2; omega, Step.of_below hb1, fun b hb => by have := (hS0 b hb).2; omega⟩, hI1, hL1, fun h => by have := (hS0 _ h).2; omega, hK1⟩
 have stp : ∀ {S' : Nat → Prop} {W2 : World} {o : Obj} (o' : Obj), Step S0 S' w W2 → Step S0 S' w (W2.putObj (w.heap.size + 1) o') := fun o' n2 =>
  ⟨n2.os, n2.tape, n2.output, by rw [World.putObj_size]; exact n2.size, fun b hb hS => (World.putObj_heap_other (by omega)).trans (n2.keep b hb hS), n2.sub⟩
 refine hcall.mono ?_
 rintro e W2 ⟨⟨v, rfl⟩, S2, hs2, hsb2, (⟨S', rfl, ⟨n1, n2, n3⟩, hi, hl, hd, hk⟩ | ⟨S', c, rfl, ⟨n1, n2, n3⟩, hi, hl, hd, hk⟩)⟩
 ·refine ⟨none, _, by have := run_endLoop (P := P) hl (by rw [hrec]; simp); rw [hrec] at this; exact this, ?_⟩
  exact hdone _ S' _ (Nat.le_refl _) hd (stp (o := .deferred none) _ n2) (fun b hb => by rw [World.putObj_size]; exact n3 b hb) ((hI _ _).put _ hi (Nat.le_succ _) hl rfl) ((World.putObj_heap_other (by omega)).trans hk)
 ·refine ⟨some c, _, by have := run_endLoop (P := P) hl (by rw [hrec]; simp); rw [hrec] at this; exact this, ?_⟩
  exact hstop _ c S' _ (Nat.le_refl _) hd (stp (o := .deferred none) _ n2) (fun b hb => by rw [World.putObj_size]; exact n3 b hb) ((hIx _ _).put _ hi (Nat.le_succ _) hl rfl) ((World.putObj_heap_other (by omega)).trans hk)
end
end Go.Proofs.Ytpidiibhgfjemaa.Run
end
section
namespace Go.Proofs.Ytpidiibhgfjemaa.Run
open Go Go.RowKit
set_option linter.unusedVariables false
theorem wpListIn_append_at {F : Fence} {n : Nat} {P : Program} (w : World) {ops : Array Oper} {rest : List Oper} {o : Oper} {a : Act} {Q : Exit → Act → World → Prop}
  (hg : o.guard = none) (s x : Operand) (t : TypeId) (hop : o.op = Op.call { callee := Callee.builtin Builtin.append, args := #[s, x], argTypes := #[t, t] })
  (base : Nat) (e : TypeId) (i : TypeInfo) (z : Value) (size bytes : Nat) (h1 : P.underlying t = some (.slice e)) (h2 : P.info? e = some i) (h3 : i.zero = some z) (h4 : i.size = size) (h5 : i.bytes = bytes) (h6 : z.cells.size = size) (h7 : 0 < size)
  (v : Value) (k : Nat) (xs : List Value) (hs : a.eval s = v) (hown : w.ownsRow base e size v k xs) (ad : Addr) (m c : Nat) (news : List Value) (hx : a.eval x = .slice (some ad) m c) (hn : news.length = m * size)
  (hc : ∀ j u, news[j]? = some u → w.cell? (ad.add j) = some u) (h1c : ∀ u ∈ news, u.oneCell' = true) (b1 : k + m ≤ maxLen) (b2 : (k + m) * bytes ≤ 140737488355328) (b3 : base ≤ w.heap.size)
  (hK : ∀ v' w', w'.ownsRow base e size v' (k + m) (xs ++ news) → w.grownBy w' v.ownBlock → (v'.ownBlock = v.ownBlock ∨ v'.ownBlock = some w.heap.size) → wpListIn F n P ops Q rest (a.put o.dst v') w') :
  wpListIn F n P ops Q (o :: rest) a w := by
 refine wpListIn_plain hg fun K hK' => ?_
 obtain ⟨v', w', hrun, r1, r2, _, r4⟩ := run_append_own_at (P := P) (w := w) base t o.type e i z size bytes h1 h2 h3 h4 h5 h6 h7 v k xs hown ad m c news hn hc h1c b1 b2 b3
 unfold Oper.wpIn
 refine ⟨?_, ?_⟩
 ·simp [Oper.about, hop, resolve, Target.leads, Sem.run_pure]
 ·rw [Oper.semAt_plain F _ _ (by rw [hop]; intro c hc'; cases hc')]
  simp [execOp, hop, resolve, invoke, builtin, hs, hx, hrun, Result.andThen]
  exact hK' _ _ (hK v' w' r1 r2 r4)
def OwnS (B : Nat) (v : Value) : Nat → Prop := fun b => b = B ∨ v.ownBlock = some b
theorem own_lt' {W : World} {n₀ e size k : Nat} {v : Value} {xs : List Value} (h : W.ownsRow n₀ e size v k xs) {b : Nat} (hb : v.ownBlock = some b) : n₀ ≤ b ∧ b < W.heap.size := by
 rcases h.2 with ⟨rfl, _⟩ | ⟨g, cap, cur, rfl, hg, hh, _⟩
 ·simp [Value.ownBlock] at hb
 ·have : g = b := by simpa [Value.ownBlock] using hb
  subst this
  exact ⟨hg, (Array.getElem?_eq_some_iff.1 hh).1⟩
theorem own_slice {W : World} {n₀ e size k : Nat} {v : Value} {xs : List Value} (h : W.ownsRow n₀ e size v k xs) : ∃ A c, v = .slice A k c := by
 rcases h.2 with ⟨rfl, hk⟩ | ⟨g, cap, cur, rfl, _⟩
 ·exact ⟨none, 0, by rw [hk]⟩
 ·exact ⟨_, _, rfl⟩
theorem Grow.boxed (B0 Bx : Nat) (t : TypeId) (v : Value) : Grow B0 (fun W => Boxed W Bx t v) := by
 refine ⟨fun {W W'} h hb => (hb.block Bx h.lt).trans h, fun {W l o} o' h hl ho hc => (World.putObj_heap_other (fun e => ?_)).trans h⟩
 subst e
 have h' : W.heap[Bx]? = some (.cells #[v] t (0, 0)) := h
 rw [h'] at ho; cases ho; cases hc
theorem Grow.blk (B0 Bx : Nat) (cs : Array Value) (t : TypeId) (o2 : Nat × Nat) : Grow B0 (fun W => W.heap[Bx]? = some (.cells cs t o2)) := by
 refine ⟨fun {W W'} h hb => (hb.block Bx (Array.getElem?_eq_some_iff.1 h).1).trans h, fun {W l o} o' h hl ho hc => (World.putObj_heap_other (fun e => ?_)).trans h⟩
 subst e
 rw [h] at ho; cases ho; cases hc
theorem Grow.row (B0 : Nat) (n₀ e size k : Nat) (v : Value) (xs : List Value) : Grow B0 (fun W => W.ownsRow n₀ e size v k xs) := by
 refine ⟨fun {W W'} h hb => ?_, fun {W l o} o' h hl ho hc => ownsRow_putObj h o' ho hc⟩
 refine ⟨h.1, ?_⟩
 rcases h.2 with h2 | ⟨g, cap, cur, rfl, hg, hh, r⟩
 ·exact .inl h2
 ·exact .inr ⟨g, cap, cur, rfl, hg, (hb.block g (Array.getElem?_eq_some_iff.1 hh).1).trans hh, r⟩
theorem appended_step {W w1 : World} {n₀ B : Nat} {t e : TypeId} {size : Nat} {v v' : Value} {k m : Nat} {xs ys : List Value} {tmp : Obj}
  (hv : Boxed W B t v) (hte : t ≠ e) (hrow : W.ownsRow n₀ e size v k xs) (hn₀ : n₀ ≤ W.heap.size) (hB : n₀ ≤ B)
  (hown' : w1.ownsRow n₀ e size v' m ys) (hgrow : (W.alloc tmp).grownBy w1 v.ownBlock) (hat : v'.ownBlock = v.ownBlock ∨ v'.ownBlock = some (W.alloc tmp).heap.size) :
  Boxed w1 B t v ∧ Boxed (w1.setCell ⟨B, 0, none⟩ v') B t v' ∧ (w1.setCell ⟨B, 0, none⟩ v').ownsRow n₀ e size v' m ys ∧ Step (OwnS B v) (OwnS B v') W (w1.setCell ⟨B, 0, none⟩ v') ∧ (∀ b, OwnS B v' b → b < (w1.setCell ⟨B, 0, none⟩ v').heap.size) := by
 have hn := Boxed.appended (tmp := tmp) hv hte hrow hn₀ hB hown' hgrow
 have hbel := hn.2.2.2.2
 refine ⟨hn.1, hn.2.1, hn.2.2.1, ⟨hbel.os, hbel.tape, hbel.output, hbel.size, fun b hb hS => ?_, fun b hb => ?_⟩, fun b hb => ?_⟩
 ·have e1 : (w1.setCell ⟨B, 0, none⟩ v').heap[b]? = w1.heap[b]? := Below.heap_setCell w1 ⟨B, 0, none⟩ v' b (fun h => hS (.inl h))
  have e2 : w1.heap[b]? = (W.alloc tmp).heap[b]? := hgrow.block b (by rw [World.size_alloc]; omega) (fun h => hS (.inr h.symm))
  have e3 : (W.alloc tmp).heap[b]? = W.heap[b]? := Below.heap_alloc W tmp b hb
  exact e1.trans (e2.trans e3)
 ·rcases hb with rfl | hb
  ·exact .inl (.inl rfl)
  ·rcases hat with h | h
   ·exact .inl (.inr (by rw [← h]; exact hb))
   ·rw [h] at hb
    have : (W.alloc tmp).heap.size = b := Option.some.inj hb
    rw [World.size_alloc] at this
    exact .inr (by omega)
 ·rcases hb with rfl | hb
  ·exact hn.2.1.lt
  ·exact (own_lt' hn.2.2.1 hb).2
end Go.Proofs.Ytpidiibhgfjemaa.Run
end
section
namespace Go.Proofs.Ytpidiibhgfjemaa.PLh
open Go.Proofs.Ytpidiibhgfjemaa.PLg
open Go.RowKit Go.Shelf Go.Proofs.YtpidiibhgfjemaaW.PrintWords Go.Proofs.YtpidiibhgfjemaaW.PrintLast Go.Proofs.YtpidiibhgfjemaaW.PrintMore
open Go.Proofs.Ytpidiibhgfjemaa.Run
set_option linter.unusedVariables false
attribute [local go_sem] Oper.semAt_some
def readsN (x : S40) : List Int := readsT x.f0 x.f1 x.f2
def inR (i : Int) (k : Nat) : List Int → Nat → List (Nat × Nat)
 | [], _ => []
 | a :: r, j => if a = i then (k, j) :: inR i k r (j + 1) else inR i k r (j + 1)
def ports (i : Int) : List S40 → Nat → List (Nat × Nat)
 | [], _ => []
 | x :: xs, k => inR i k (readsN x) 0 ++ ports i xs (k + 1)
theorem inR_drop (i : Int) (k : Nat) (l : List Int) (j : Nat) (hj : j < l.length) : inR i k (l.drop j) j = (if l[j] = i then [(k, j)] else []) ++ inR i k (l.drop (j + 1)) (j + 1) := by
 rw [List.drop_eq_getElem_cons hj, inR]
 split <;> rfl
theorem ports_drop (i : Int) (l : List S40) (k : Nat) (hk : k < l.length) : ports i (l.drop k) k = inR i k (readsN l[k]) 0 ++ ports i (l.drop (k + 1)) (k + 1) := by
 rw [List.drop_eq_getElem_cons hk, ports]
def PhiPort (x : Nat × Nat) (args : Array Value) (W : World) : Prop := args = #[.agg #[.int .i64 x.1, .int .i64 x.2]]
set_option maxHeartbeats 4000000 in
set_option maxRecDepth 100000 in
theorem readers1_iter (n : Nat) (hn : 3 ≤ n) (A0 : Option Addr) (c0 : Nat) (l : List S40) (i : Int) (cp ci : Nat) (R : Nat → Prop) (wE w0 : World)
  (hr0 : Kd.C k40 wE A0 l.length l) (hE : Below wE.heap.size wE w0) (hcp : w0.cell? ⟨cp, 0, none⟩ = some (.slice A0 l.length c0)) (hci : w0.cell? ⟨ci, 0, none⟩ = some (.int .i64 i))
  (hR0 : ∀ b, b < wE.heap.size → R b) (hRp : R cp) (hRi : R ci) (hRw : ∀ b, R b → b < w0.heap.size) (hl : l.length ≤ 1000) :
  IterOn Fence.wide n Try.prog 47 #[.pointer (some ⟨cp, 0, none⟩), .pointer (some ⟨ci, 0, none⟩)] (ports i l 0) PhiPort R w0 := by
 refine ⟨hRw, fun l' J Jx S W hW hS hJ hJx hY h0 => ?_⟩
 have hu := Try.underlying40
 have hRW : ∀ b, R b → b < W.heap.size := fun b hb => Nat.lt_of_lt_of_le (hRw b hb) hW.size
 have KW : ∀ (S1 : Nat → Prop) (wr : World), Step S S1 W wr → Keeps R w0 wr := fun _ _ h => hW.trans (h.keeps fun b hb => ⟨hRW b hb, fun hs => (hS b hs).1 hb⟩)
 have KE : ∀ (S1 : Nat → Prop) (wr : World), Step S S1 W wr → Below wE.heap.size wE wr := fun _ _ h => hE.trans ((KW _ _ h).below hR0)
 have HP := Lib.hid hcp
 have HI := Lib.hid hci
 have HR := Lib.hid hr0
 have HY := Lib.hid hY
 have HJ := Lib.hid hJ
 have HKW := Lib.hid KW
 have HKE := Lib.hid KE
 have HL := Lib.hid hl
 have HS := Lib.hid hS
 have cpW := (hW.cell (p := ⟨cp, 0, none⟩) hRp).trans hcp
 clear hcp hci hr0 hY hJ KW KE hS hRW hE hR0 hJx
 refine callsIn_of_wp Try.func47 rfl trivial ?_ rfl
 simp only [Try.ntmps47, List.size_toArray, List.length_cons, List.length_nil, Nat.reduceAdd, Nat.reduceSub, Array.replicate_succ, Array.replicate_zero, List.push_toArray, List.append_toArray, List.nil_append, List.cons_append]
 gi_wp2
 gi_loopw [10] (fun v wr => ∃ (k : Nat) (pre : List (Nat × Nat)) (S1 : Nat → Prop), k ≤ l.length ∧ v = .int .i64 (k : Int) ∧ Aside0 (ports i l 0 = pre ++ ports i (l.drop k) k) ∧ Aside0 (Step S S1 W wr) ∧ Aside0 (∀ b, S1 b → b < wr.heap.size) ∧ Aside0 (J pre.length S1 wr)) (fun v wr => l.length - (intOf v).toNat)
 case atStart => exact ⟨0, [], S, by omega, rfl, ⟨rfl⟩, ⟨Step.refl _ _⟩, ⟨fun b hb => (HS.out b hb).2⟩, ⟨h0⟩⟩
 case round =>
  obtain ⟨k, pre, S1, hk, rfl, HE, HST, HSB, HJ1⟩ := hrel
  have hl8 : l.length ≤ 1000 := HL.out
  by_cases c : k < l.length
  ·obtain ⟨X, hX⟩ : ∃ X, l[k] = X := ⟨_, rfl⟩
   obtain ⟨ad, A3, c3, A4, c4, A5, c5, A6, c6, e1, hx0, hx1, hx2, hx3, hx4, hx5, hx6, hx7, hx8, hx9, hx10, hx11, q3, g3, q4, g4, q5, g5, q6, g6⟩ := at_T40 (Kd.C_below HR.out (HKE.out _ _ HST.out)) (k : Int) (by omega) (by omega)
   have hrd : rd_T40 l (k : Int) = X := by
    unfold rd_T40
    rw [Int.toNat_natCast, List.getD_eq_getElem?_getD, List.getElem?_eq_getElem c]
    exact hX
   rw [Int.toNat_natCast, hrd] at hx0 hx1 hx2 hx3 hx4 hx5 hx6 hx7 hx8 hx9 hx10 hx11
   rw [hrd] at q3 g3 q4 g4 q5 g5 q6 g6
   clear hrd
   cases e1
   have RD := Lib.hid (fun (W1 : World) (hb : Below wr.heap.size wr W1) => reads_calls X.f0 X.f1 X.f2 A3 c3 X.f3 A4 c4 X.f4 A5 c5 X.f5 A6 c6 X.f6 X.f7.f0 X.f7.f1 X.f7.f2 X.f8 X.f9 W1 (Kd.C_below g3 hb) q3 (Kd.C_below g4 hb) q4 (Kd.C_below g5 hb) q5 (Kd.C_below g6 hb) q6)
   obtain ⟨rs, hrs⟩ : ∃ rs, readsT X.f0 X.f1 X.f2 = rs := ⟨_, rfl⟩
   rw [hrs] at RD
   have HRS := Lib.hid (show readsN l[k] = rs by rw [hX]; exact hrs)
   have HRL := Lib.hid (show rs.length ≤ 2 by rw [← hrs]; exact readsT_len _ _ _)
   have hnb := Lib.hid (Below.alloc (Below.refl wr.heap.size wr) (Nat.le_refl _) (.cells #[.int .i64 X.f0, .int .i64 X.f1, .int .i64 X.f2, .slice A3 X.f3.length c3, .slice A4 X.f4.length c4, .slice A5 X.f5.length c5, .slice A6 X.f6.length c6, .int .i64 X.f7.f0, .int .i64 X.f7.f1, .int .i64 X.f7.f2, .int .i64 X.f8, .int .i64 X.f9] 40 (0, 0)))
   clear hX hrs g3 q3 g4 q4 g5 q5 g6 q6
   gi_wp2_with (refine ⟨trivial, fun _ => ?hn, ?_⟩; (case hn => omega); (with_reducible refine (callsIn_wide.2 (RD.out _ hnb.out)).mono ?_); rintro e w4 ⟨v0_, rfl, hR, hb4⟩; have HB4 := Lib.hid (hnb.out.trans (hb4.mono hnb.out.size)); obtain ⟨RA, Rc, hRe⟩ := Kd.R_slice hR; subst hRe; have HR4 := Lib.hid (Kd.R_bound hR); clear hb4 hR)
   have HST4 := Lib.hid (HST.out.trans (Step.of_below HB4.out))
   have HJ4 := Lib.hid ((HJ.out _ _).below HJ1.out HB4.out)
   have HE4 := Lib.hid (show ports i l 0 = pre ++ (inR i k (rs.drop 0) 0 ++ ports i (l.drop (k + 1)) (k + 1)) by rw [HE.out, ports_drop i l k c, HRS.out, List.drop_zero])
   have HS4 := Lib.hid (fun b (h : S1 b) => Nat.lt_of_lt_of_le (HSB.out b h) HB4.out.size)
   gi_loopw [18] (fun v wr2 => ∃ (j : Nat) (pre2 : List (Nat × Nat)) (S2 : Nat → Prop), j ≤ rs.length ∧ v = .int .i64 (j : Int) ∧ Aside0 (ports i l 0 = pre2 ++ (inR i k (rs.drop j) j ++ ports i (l.drop (k + 1)) (k + 1))) ∧ Aside0 (Step S1 S2 w4 wr2) ∧ Aside0 (∀ b, S2 b → b < wr2.heap.size) ∧ Aside0 (J pre2.length S2 wr2)) (fun v wr2 => rs.length - (intOf v).toNat)
   case atStart => exact ⟨0, pre, S1, by omega, rfl, ⟨HE4.out⟩, ⟨Step.refl _ _⟩, ⟨HS4.out⟩, ⟨HJ4.out⟩⟩
   case round =>
    obtain ⟨j, pre2, S2, hj, rfl, HE2, HST2, HSB2, HJ2⟩ := hrel
    have hrl : rs.length ≤ 2 := HRL.out
    by_cases cj : j < rs.length
    ·obtain ⟨Y, hYj⟩ : ∃ Y, rs[j] = Y := ⟨_, rfl⟩
     have hRr := Kd.R_step HR4.out (fun b hb hlt => HST2.out.keep b hlt (fun hs => by have h1 := HSB.out b hs; have h2 := hb.2.1; rw [World.size_alloc] at h2; omega))
     obtain ⟨ad2, e2, hy0⟩ := ix_at_int (Kd.R_reads' hRr).2.2 j cj
     rw [hYj] at hy0
     cases e2
     have HYJ := Lib.hid hYj
     have ciw := ((HKW.out _ _ (HST4.out.trans HST2.out)).cell (p := ⟨ci, 0, none⟩) hRi).trans HI.out
     have HDJ := Lib.hid (inR_drop i k rs j cj)
     clear hRr hYj
     by_cases hi : Y = i
     ·have b1 : (Y == i) = true := beq_iff_eq.2 hi
      have HE5 := Lib.hid (show ports i l 0 = pre2 ++ [(k, j)] ++ (inR i k (rs.drop (j + 1)) (j + 1) ++ ports i (l.drop (k + 1)) (k + 1)) by rw [HE2.out, HDJ.out, HYJ.out, if_pos hi]; simp)
      have hget : (ports i l 0)[pre2.length]? = some (k, j) := by rw [HE5.out]; simp
      obtain ⟨fn, tmps, assign, body, hy, hRd⟩ := HY.out pre2.length (k, j) #[.agg #[.int .i64 (k : Int), .int .i64 (j : Int)]] S2 wr hget HJ2.out HSB2.out (HST4.out.trans HST2.out) rfl
      clear hi hget
      gi_wp2
      refine ⟨fun _ => by omega, hRd.mono ?_⟩
      rintro e W' (⟨rfl, S3, hs3, hb3, hj3⟩ | ⟨rfl, S3, hs3, hb3, hj3⟩)
      ·have HQ := Lib.hid hs3
       have HB3 := Lib.hid hb3
       have HJ3 := Lib.hid hj3
       clear hs3 hb3 hj3
       gi_wp2
       go_roundw
       case rel => exact ⟨j + 1, pre2 ++ [(k, j)], S3, by omega, by go_num, ⟨HE5.out⟩, ⟨HST2.out.trans HQ.out⟩, ⟨HB3.out⟩, ⟨by rw [List.length_append]; exact HJ3.out⟩⟩
       case measure => simp [intOf]; omega
      ·have HQ := Lib.hid hs3
       have HB3 := Lib.hid hb3
       have HJ3 := Lib.hid hj3
       clear hs3 hb3 hj3
       gi_wp2
       refine bodyPost_ret (results_none rfl _ _ _) rfl ?_
       exact ⟨⟨_, rfl⟩, S3, (HST4.out.trans HST2.out).trans HQ.out, HB3.out, .inr HJ3.out⟩
     ·have b1 : (Y == i) = false := beq_eq_false_iff_ne.2 hi
      have HE5 := Lib.hid (show ports i l 0 = pre2 ++ (inR i k (rs.drop (j + 1)) (j + 1) ++ ports i (l.drop (k + 1)) (k + 1)) by rw [HE2.out, HDJ.out, HYJ.out, if_neg hi]; simp)
      clear hi
      gi_wp2
      refine ⟨fun _ h => (by cases h), ?_⟩
      gi_wp2
      go_roundw
      case rel => exact ⟨j + 1, pre2, S2, by omega, by go_num, ⟨HE5.out⟩, ⟨HST2.out⟩, ⟨HSB2.out⟩, ⟨HJ2.out⟩⟩
      case measure => simp [intOf]; omega
    ·obtain rfl : j = rs.length := by omega
     have HE5 := Lib.hid (show ports i l 0 = pre2 ++ ports i (l.drop (k + 1)) (k + 1) by rw [HE2.out, List.drop_length]; rfl)
     have HST5 := Lib.hid (HST4.out.trans HST2.out)
     gi_wp2
     go_roundw
     case rel => exact ⟨k + 1, pre2, S2, by omega, by go_num, ⟨HE5.out⟩, ⟨HST5.out⟩, ⟨HSB2.out⟩, ⟨HJ2.out⟩⟩
     case measure => simp [intOf]; omega
  ·obtain rfl : k = l.length := by omega
   have HE5 := Lib.hid (show ports i l 0 = pre by rw [HE.out, List.drop_length]; simp [ports])
   gi_wp2
   go_end0
   exact ⟨⟨_, rfl⟩, S1, HST.out, HSB.out, .inl (by rw [HE5.out]; exact HJ1.out)⟩
end Go.Proofs.Ytpidiibhgfjemaa.PLh
end
section
namespace Go.Proofs.Ytpidiibhgfjemaa.PLh
open Go.Proofs.Ytpidiibhgfjemaa.PLg
open Go.RowKit Go.Shelf Go.Proofs.YtpidiibhgfjemaaW.PrintWords Go.Proofs.YtpidiibhgfjemaaW.PrintLast Go.Proofs.YtpidiibhgfjemaaW.PrintMore
open Go.Proofs.Ytpidiibhgfjemaa.Run hiding own_slice
set_option linter.unusedVariables false
attribute [local go_sem] Oper.semAt_some
theorem inR_len (i : Int) (k : Nat) : ∀ (r : List Int) (j : Nat), (inR i k r j).length ≤ r.length
 | [], _ => Nat.le_refl _
 | a :: r, j => by
  have := inR_len i k r (j + 1)
  rw [inR]
  split
  ·simp; omega
  ·simp; omega
theorem ports_len (i : Int) : ∀ (l : List S40) (k : Nat), (ports i l k).length ≤ 2 * l.length
 | [], _ => Nat.le_refl _
 | x :: xs, k => by
  have h1 := ports_len i xs (k + 1)
  have h2 := inR_len i k (readsN x) 0
  have h3 : (readsN x).length ≤ 2 := readsT_len _ _ _
  rw [ports]
  simp
  omega
theorem infoPort : (Try.prog.info? 68).map (fun i => (i.zero, i.size, i.bytes)) = some (some (.agg #[.int .i64 0, .int .i64 0]), 2, 16) := by kernel_rfl
theorem readers_calls (A0 : Option Addr) (c0 n : Nat) (i : Int) (w : World) :
  Calls Try.prog 30 #[.slice A0 n c0, .int .i64 i] w fun e w' => e = .returned (.func (.func 47) #[] #[.pointer (some ⟨w.heap.size, 0, none⟩), .pointer (some ⟨w.heap.size + 1, 0, none⟩)]) ∧
   w' = (w.alloc (.cells #[.slice A0 n c0] 23 (0, 0))).alloc (.cells #[.int .i64 i] 3 (0, 0)) := by
 have hmf : ∀ (fn : Fn) (first cap : Array Value) (w : World), (Instr.makeFunc fn first cap).run Try.prog w = .ok (.func fn first cap) w := fun _ _ _ _ => rfl
 go_enter Try.func30, Try.ntmps30
 go_wp2
 go_ret
 exact ⟨rfl, rfl⟩
set_option maxHeartbeats 4000000 in
set_option maxRecDepth 100000 in
theorem Readers_calls (A0 : Option Addr) (c0 : Nat) (l : List S40) (i : Int) (w : World) (hr0 : Kd.C k40 w A0 l.length l) (hl : l.length ≤ 1000) :
  Calls Try.prog 19 #[.slice A0 l.length c0, .int .i64 i] w fun e w' => ∃ A c, e = .returned (.slice A (ports i l 0).length c) ∧ Below w.heap.size w w' := by
 have RC := Lib.hid (readers_calls A0 c0 l.length i)
 have HR := Lib.hid hr0
 have HL := Lib.hid hl
 clear hr0 hl
 refine (callsIn_wide (n := 5)).1 ?_
 refine callsIn_of_wp_marks Try.func19 rfl trivial ?_ rfl
 simp only [Try.ntmps19, List.size_toArray, List.length_cons, List.length_nil, Nat.reduceAdd, Nat.reduceSub, Array.replicate_succ, Array.replicate_zero, List.push_toArray, List.append_toArray, List.nil_append, List.cons_append]
 gi_wp2_with (refine ⟨trivial, ?_⟩; (with_reducible refine (callsIn_wide.2 (RC.out _)).mono ?_); rintro e w1 ⟨rfl, rfl⟩)
 obtain ⟨W2, hW2⟩ : ∃ W2, (((w.alloc (.cells #[] 68 (0, 0))).alloc (.cells #[.slice (some ⟨w.heap.size, 0, none⟩) 0 0] 51 (0, 0))).alloc (.cells #[.slice A0 l.length c0] 23 (0, 0))).alloc (.cells #[.int .i64 i] 3 (0, 0)) = W2 := ⟨_, rfl⟩
 have hsz : W2.heap.size = w.heap.size + 4 := by rw [← hW2]; simp
 have hB2 : Below w.heap.size w W2 := by
  rw [← hW2]
  exact below_alloc (below_alloc (below_alloc (below_alloc (Below.refl _ w) _) _) _) _
 have hk0 : W2.heap[w.heap.size]? = some (.cells #[] 68 (0, 0)) := by
  rw [← hW2]; exact blk_alloc (blk_alloc (blk_alloc (blk_new w _) _) _) _
 have hbox : Boxed W2 (w.heap.size + 1) 51 (.slice (some ⟨w.heap.size, 0, none⟩) 0 0) := by
  rw [← hW2]
  have h1 := blk_new (w.alloc (.cells #[] 68 (0, 0))) (.cells #[.slice (some ⟨w.heap.size, 0, none⟩) 0 0] 51 (0, 0))
  rw [World.size_alloc] at h1
  exact blk_alloc (blk_alloc h1 _) _
 have hcpb : W2.heap[w.heap.size + 2]? = some (.cells #[.slice A0 l.length c0] 23 (0, 0)) := by
  rw [← hW2]
  have h1 := blk_new ((w.alloc (.cells #[] 68 (0, 0))).alloc (.cells #[.slice (some ⟨w.heap.size, 0, none⟩) 0 0] 51 (0, 0))) (.cells #[.slice A0 l.length c0] 23 (0, 0))
  rw [World.size_alloc, World.size_alloc] at h1
  exact blk_alloc h1 _
 have hcib : W2.heap[w.heap.size + 3]? = some (.cells #[.int .i64 i] 3 (0, 0)) := by
  rw [← hW2]
  have h1 := blk_new (((w.alloc (.cells #[] 68 (0, 0))).alloc (.cells #[.slice (some ⟨w.heap.size, 0, none⟩) 0 0] 51 (0, 0))).alloc (.cells #[.slice A0 l.length c0] 23 (0, 0))) (.cells #[.int .i64 i] 3 (0, 0))
  rw [World.size_alloc, World.size_alloc, World.size_alloc] at h1
  exact h1
 have hrow : W2.ownsRow w.heap.size 68 2 (.slice (some ⟨w.heap.size, 0, none⟩) 0 0) 0 [] := ⟨rfl, .inr ⟨w.heap.size, 0, #[], rfl, Nat.le_refl _, hk0, Nat.le_refl _, Nat.zero_le _, rfl, rfl⟩⟩
 have hit := readers1_iter 4 (by omega) A0 c0 l i (w.heap.size + 2) (w.heap.size + 3) (fun b => b < w.heap.size ∨ b = w.heap.size + 2 ∨ b = w.heap.size + 3) w W2 HR.out hB2 ((blk_cell hcpb 0).trans rfl) ((blk_cell hcib 0).trans rfl)
  (fun b hb => .inl hb) (.inr (.inl rfl)) (.inr (.inr rfl)) (fun b hb => by rw [hsz]; rcases hb with h | h | h <;> omega) HL.out
 have hS0 : ∀ b, OwnS (w.heap.size + 1) (.slice (some ⟨w.heap.size, 0, none⟩) 0 0) b → ¬ (b < w.heap.size ∨ b = w.heap.size + 2 ∨ b = w.heap.size + 3) ∧ b < W2.heap.size := by
  intro b hb
  rcases hb with rfl | hb
  ·rw [hsz]; omega
  ·have : w.heap.size = b := by simpa [Value.ownBlock] using hb
   rw [hsz]; omega
 obtain ⟨i0, hi0, hz0, hz1, hz2⟩ := info_parts infoPort
 have hpl := ports_len i l 0
 have hll : l.length ≤ 1000 := HL.out
 have HPL := Lib.hid (show (ports i l 0).length ≤ 2000 by omega)
 have HSZ := Lib.hid hsz
 have HB2 := Lib.hid hB2
 have HW2 := Lib.hid hW2
 rw [hW2]
 clear hpl hll hsz hB2 hk0 hcpb hcib hW2
 refine range_outer (F := Fence.wide) rfl (by omega) (gf := 47) (lb := #[.pointer (some ⟨w.heap.size + 2, 0, none⟩), .pointer (some ⟨w.heap.size + 3, 0, none⟩)]) rfl trivial (enters_of Try.func47 (by kernel_rfl) rfl) hit (Keeps.refl _ _) (fun x args W h => by rw [show args = _ from h]; rfl)
  (fun k S W => ∃ v xs, S = OwnS (w.heap.size + 1) v ∧ Boxed W (w.heap.size + 1) 51 v ∧ W.ownsRow w.heap.size 68 2 v k xs)
  (fun _ _ _ => False)
  (fun x _ a' W => ∃ Bx, W.heap[Bx]? = some (.cells #[.int .i64 x.1, .int .i64 x.2] 68 (0, 0)) ∧ a' = { tmps := #[.slice A0 l.length c0, .int .i64 i, undef, undef, .slice none 0 0, .pointer (some ⟨w.heap.size + 1, 0, none⟩), .pointer (some ⟨Bx, 0, none⟩), .slice (some ⟨w.heap.size, 0, none⟩) 0 0, .slice A0 l.length c0, .int .i64 i, .func (.func 47) #[] #[.pointer (some ⟨w.heap.size + 2, 0, none⟩), .pointer (some ⟨w.heap.size + 3, 0, none⟩)], .agg #[.int .i64 x.1, .int .i64 x.2], undef, undef, undef, undef, undef], defers := [] })
  (fun k S => Grow.ex fun v => Grow.ex fun xs => (Grow.const _ _).and ((Grow.boxed _ _ _ _).and (Grow.row _ _ _ _ _ _ _)))
  (fun _ _ => Grow.const _ _) (fun x args => Grow.const _ _)
  (fun x args a' => Grow.ex fun Bx => (Grow.blk _ _ _ _ _).and (Grow.const _ _))
  (OwnS (w.heap.size + 1) (.slice (some ⟨w.heap.size, 0, none⟩) 0 0)) hS0 ⟨_, _, rfl, hbox, hrow⟩ ?assign ?body ?done ?stop
 case assign =>
  rintro l' k S x args W K hx hi hphi hK
  obtain rfl := show args = _ from hphi
  clear hi
  gi_wp2
  exact hK _ _ (below_alloc (Below.refl _ W) _) ⟨W.heap.size, blk_new W _, rfl⟩
 case body =>
  rintro l' k S x args a' W hl' ⟨r, hr⟩ hx hSb hSl hkR ⟨v, xs, rfl, hbx, hrw⟩ hphi ⟨Bx, hBx, rfl⟩
  have c0 := (blk_cell hBx 0).trans (show _ = some (Value.int .i64 (x.1 : Int)) from rfl)
  have c1 := (blk_cell hBx 1).trans (show _ = some (Value.int .i64 (x.2 : Int)) from rfl)
  have hcl := hbx.cell
  have hkl : k < (ports i l 0).length := (List.getElem?_eq_some_iff.1 hx).1
  have HK := Lib.hid (show k + 1 ≤ 2000 by have := HPL.out; omega)
  have HN := Lib.hid (show w.heap.size ≤ W.heap.size by have := HB2.out.size; have := hbx.lt; omega)
  clear hx hkl hSb hSl hkR hphi hl'
  have hu68 : Try.prog.underlying 51 = some (.slice 68) := by kernel_rfl
  have hrw1 := (Grow.row 0 _ _ _ _ _ _).below hrw (below_alloc (Below.refl _ W) (.cells #[.int .i64 (x.1 : Int), .int .i64 (x.2 : Int)] 68 (0, 0)))
  gi_wp2_with (refine wpListIn_append_at _ rfl _ _ _ rfl w.heap.size 68 i0 _ 2 16 hu68 hi0 hz0 hz1 hz2 rfl (by omega) v k xs rfl hrw1 ⟨W.heap.size, 0, none⟩ 1 1 [.int .i64 (x.1 : Int), .int .i64 (x.2 : Int)] rfl rfl ?hc ?h1c ?b1 ?b2 ?b3 ?_)
  case hc =>
   intro j u hju
   match j with
   | 0 => cases hju; exact (blk_cell (blk_new W _) 0).trans rfl
   | 1 => cases hju; exact (blk_cell (blk_new W _) 1).trans rfl
   | j + 2 => cases hju
  case h1c =>
   intro u hu
   rcases List.mem_cons.1 hu with rfl | hu
   ·rfl
   ·rcases List.mem_cons.1 hu with rfl | hu
    ·rfl
    ·cases hu
  case b1 => have := HK.out; unfold maxLen; omega
  case b2 => have := HK.out; omega
  case b3 => have := HN.out; rw [World.size_alloc]; omega
  intro v' w1 hown' hgrow hat
  obtain ⟨g1, cap1, rfl⟩ := ownsRow_succ hown'
  have hst := appended_step (B := w.heap.size + 1) (t := 51) hbx (by decide) hrw HN.out (by omega) hown' hgrow (by rw [World.size_alloc]; exact hat)
  obtain ⟨hb1, hb2, hr2, hs2, hS2⟩ := hst
  have hcl1 := hb1.cell
  have hfr1 := hb1.frozen
  have HB2' := Lib.hid hb2
  have HR2 := Lib.hid hr2
  have HS2 := Lib.hid hs2
  have HSS2 := Lib.hid hS2
  clear hb2 hr2 hs2 hS2 hown' hgrow hat hrw1
  gi_wp2
  exact ⟨_, HS2.out, HSS2.out, _, _, rfl, HB2'.out, HR2.out⟩
 case done =>
  rintro D S W hD hSD hst hsb ⟨v, xs, rfl, hbx, hrw⟩ hK
  obtain ⟨A, c, rfl⟩ := own_slice hrw
  have hcl := hbx.cell
  have HBW := Lib.hid (HB2.out.trans (hst.below (n := w.heap.size) (by rw [HSZ.out]; omega) (fun b hb => by have := (hS0 b hb).1; omega)))
  clear hst hsb
  gi_wp2
  refine ⟨by simp, .inl ⟨_, _, rfl, run_takeDeferred hK, ?_⟩⟩
  exact ⟨_, results_tmp rfl _ _ _, A, c, rfl, below_put (Nat.le_refl _) _ HBW.out (Nat.le_trans HB2.out.size hD)⟩
 case stop =>
  rintro D c S W hD hSD hst hsb h hK
  exact h.elim
end Go.Proofs.Ytpidiibhgfjemaa.PLh
end
section
namespace Go.Proofs.Ytpidiibhgfjemaa.PLh
open Go.Proofs.Ytpidiibhgfjemaa.PLg
open Go.RowKit Go.Proofs.YtpidiibhgfjemaaW.PrintWords Go.Proofs.YtpidiibhgfjemaaW.PrintLast Go.Proofs.YtpidiibhgfjemaaW.PrintMore
set_option linter.unusedVariables false
def formAt (x : S40) (i : Int) : Int := formN x.f0 x.f1 x.f2 x.f3 x.f4 x.f5 x.f6 x.f7.f0 x.f7.f1 x.f7.f2 x.f8 x.f9 i
def firstBad : List S40 → Nat → Int
 | [], _ => 0
 | x :: xs, i => if formAt x i = 0 then firstBad xs (i + 1) else formAt x i
def unread (l : List S40) : Nat → Nat → Bool
 | 0, _ => false
 | n + 1, i => if (ports i l 0).length = 0 then true else unread l n (i + 1)
def formP (l : List S40) : Int :=
 if l.length = 0 then 19 else if 10 < l.length then 6 else if firstBad l 0 = 0 then (if unread l (l.length - 1) 0 = true then 19 else 0) else firstBad l 0
set_option maxHeartbeats 4000000 in
set_option maxRecDepth 100000 in
theorem Form_calls (A0 : Option Addr) (c0 : Nat) (l : List S40) (w : World) (hr0 : Kd.C k40 w A0 l.length l) :
  Calls Try.prog 11 #[.slice A0 l.length c0] w fun e w' => e = .returned (.int .i64 (formP l)) ∧ Below w.heap.size w w' := by
 have HR := Lib.hid hr0
 clear hr0
 have hu := Try.underlying40
 obtain ⟨F, hF⟩ : ∃ F, formP l = F := ⟨_, rfl⟩
 rw [hF]
 have HF := Lib.hid hF
 clear hF
 by_cases h0 : l.length = 0
 ·have HF' := Lib.hid (show F = 19 by rw [← HF.out]; unfold formP; rw [if_pos h0])
  go_enter Try.func11, Try.ntmps11
  go_wp2
  go_ret
  exact ⟨by rw [HF'.out]; rfl, Below.refl _ _⟩
 by_cases h1 : 10 < l.length
 ·have HF' := Lib.hid (show F = 6 by rw [← HF.out]; unfold formP; rw [if_neg h0, if_pos h1])
  have b1 : decide ((l.length : Int) > 10) = true := decide_eq_true (by omega)
  have b0 : ((l.length : Int) == 0) = false := beq_eq_false_iff_ne.2 (by omega)
  go_enter Try.func11, Try.ntmps11
  go_wp2
  go_ret
  exact ⟨by rw [HF'.out]; rfl, Below.refl _ _⟩
 have HF2 := Lib.hid (show (if firstBad l 0 = 0 then (if unread l (l.length - 1) 0 = true then 19 else 0) else firstBad l 0) = F by rw [← HF.out]; unfold formP; rw [if_neg h0, if_neg h1])
 have hl0 : 1 ≤ l.length := by omega
 have hl1 : l.length ≤ 10 := by omega
 have HL0 := Lib.hid hl0
 have HL1 := Lib.hid hl1
 have b1 : decide ((l.length : Int) > 10) = false := decide_eq_false (by omega)
 have b0 : ((l.length : Int) == 0) = false := beq_eq_false_iff_ne.2 (by omega)
 clear HF h0 h1
 go_enter Try.func11, Try.ntmps11
 go_wp2
 go_loopw [17] (fun v wr => ∃ k : Nat, k ≤ l.length ∧ v = .int .i64 (k : Int) ∧ Aside0 (firstBad l 0 = firstBad (l.drop k) k) ∧ Aside0 (Below w.heap.size w wr)) (fun v wr => l.length - (intOf v).toNat)
 case atStart => exact ⟨0, by omega, rfl, ⟨by simp⟩, ⟨Below.refl _ _⟩⟩
 case round =>
  obtain ⟨k, hk, rfl, HN, HBr⟩ := hrel
  by_cases c : k < l.length
  ·obtain ⟨X, hX⟩ : ∃ X, l[k] = X := ⟨_, rfl⟩
   obtain ⟨ad, A3, c3, A4, c4, A5, c5, A6, c6, e1, hx0, hx1, hx2, hx3, hx4, hx5, hx6, hx7, hx8, hx9, hx10, hx11, q3, g3, q4, g4, q5, g5, q6, g6⟩ := at_T40 (Kd.C_below HR.out HBr.out) (k : Int) (by omega) (by omega)
   have hrd : rd_T40 l (k : Int) = X := by
    unfold rd_T40
    rw [Int.toNat_natCast, List.getD_eq_getElem?_getD, List.getElem?_eq_getElem c]
    exact hX
   rw [Int.toNat_natCast, hrd] at hx0 hx1 hx2 hx3 hx4 hx5 hx6 hx7 hx8 hx9 hx10 hx11
   rw [hrd] at q3 g3 q4 g4 q5 g5 q6 g6
   clear hrd
   cases e1
   have HD := Lib.hid (show l.drop k = X :: l.drop (k + 1) by rw [List.drop_eq_getElem_cons c, hX])
   have hnb := Lib.hid (Below.alloc (Below.refl wr.heap.size wr) (Nat.le_refl _) (.cells #[.int .i64 X.f0, .int .i64 X.f1, .int .i64 X.f2, .slice A3 X.f3.length c3, .slice A4 X.f4.length c4, .slice A5 X.f5.length c5, .slice A6 X.f6.length c6, .int .i64 X.f7.f0, .int .i64 X.f7.f1, .int .i64 X.f7.f2, .int .i64 X.f8, .int .i64 X.f9] 40 (0, 0)))
   have RD := Lib.hid (fun (W1 : World) (hb : Below wr.heap.size wr W1) => form_calls X.f0 X.f1 X.f2 A3 c3 X.f3 A4 c4 X.f4 A5 c5 X.f5 A6 c6 X.f6 X.f7.f0 X.f7.f1 X.f7.f2 X.f8 X.f9 (k : Int) W1 (Kd.C_below g3 hb) q3 (Kd.C_below g4 hb) q4 (Kd.C_below g5 hb) q5 (Kd.C_below g6 hb) q6)
   obtain ⟨v, hv⟩ : ∃ v, formN X.f0 X.f1 X.f2 X.f3 X.f4 X.f5 X.f6 X.f7.f0 X.f7.f1 X.f7.f2 X.f8 X.f9 (k : Int) = v := ⟨_, rfl⟩
   rw [hv] at RD
   have HV := Lib.hid (show formAt X k = v from hv)
   clear hX g3 q3 g4 q4 g5 q5 g6 q6 hv
   by_cases hz : v = 0
   ·have bz : (v != 0) = false := by simp [hz]
    have HZ := Lib.hid hz
    clear hz
    go_wp2_with ((with_reducible refine (RD.out _ hnb.out).mono ?_); rintro e w4 ⟨rfl, hb4⟩; have HB4 := Lib.hid (hnb.out.trans (hb4.mono hnb.out.size)); clear hb4)
    go_roundw
    case rel =>
     refine ⟨k + 1, by omega, by go_num, ⟨?_⟩, ⟨HBr.out.trans (HB4.out.mono HBr.out.size)⟩⟩
     rw [HN.out, HD.out]
     exact if_pos (by rw [HV.out, HZ.out])
    case measure => simp [intOf]; omega
   ·have bz : (v != 0) = true := by simp [hz]
    have HZ := Lib.hid hz
    clear hz
    go_wp2_with ((with_reducible refine (RD.out _ hnb.out).mono ?_); rintro e w4 ⟨rfl, hb4⟩; have HB4 := Lib.hid (hnb.out.trans (hb4.mono hnb.out.size)); clear hb4)
    go_ret
    refine ⟨?_, HBr.out.trans (HB4.out.mono HBr.out.size)⟩
    have e1 : firstBad l 0 = v := by
     rw [HN.out, HD.out]
     exact (if_neg (by rw [HV.out]; exact HZ.out)).trans HV.out
    have e2 : F = v := by rw [← HF2.out, e1, if_neg HZ.out]
    rw [e2]
    rfl
  ·obtain rfl : k = l.length := by omega
   have hfb : firstBad l 0 = 0 := by rw [HN.out, List.drop_length]; rfl
   have HF3 := Lib.hid (show (if unread l (l.length - 1) 0 = true then 19 else 0) = F by rw [← HF2.out, if_pos hfb])
   have HB5 := Lib.hid HBr.out
   clear hfb
   go_wp2
   go_loopw [32] (fun v wr2 => ∃ j : Nat, j ≤ l.length - 1 ∧ v = .int .i64 (j : Int) ∧ Aside0 (unread l (l.length - 1) 0 = unread l (l.length - 1 - j) j) ∧ Aside0 (Below w.heap.size w wr2)) (fun v wr2 => l.length - (intOf v).toNat)
   case atStart => exact ⟨0, by omega, rfl, ⟨rfl⟩, ⟨HB5.out⟩⟩
   case round =>
    obtain ⟨j, hj, rfl, HN2, HBr2⟩ := hrel
    by_cases cj : j < l.length - 1
    ·have bl : decide ((j : Int) < (l.length : Int) - 1) = true := decide_eq_true (by omega)
     have HD2 := Lib.hid (show l.length - 1 - j = (l.length - 1 - (j + 1)) + 1 by omega)
     have RD2 := Lib.hid (Readers_calls A0 c0 l (j : Int) wr (Kd.C_below HR.out HBr2.out) (by have := HL1.out; omega))
     obtain ⟨m, hm⟩ : ∃ m, (ports (j : Int) l 0).length = m := ⟨_, rfl⟩
     rw [hm] at RD2
     have HM := Lib.hid hm
     clear hm
     by_cases hz : m = 0
     ·have bz : ((m : Int) == 0) = true := by simp [hz]
      have HZ := Lib.hid hz
      clear hz
      go_wp2_with ((with_reducible refine RD2.out.mono ?_); rintro e w4 ⟨RA, Rc, rfl, hb4⟩; have HB4 := Lib.hid (HBr2.out.trans (hb4.mono HBr2.out.size)); clear hb4)
      go_ret
      refine ⟨?_, HB4.out⟩
      have e1 : unread l (l.length - 1) 0 = true := by rw [HN2.out, HD2.out]; exact if_pos (by rw [HM.out]; exact HZ.out)
      have e2 : F = 19 := by rw [← HF3.out, if_pos e1]
      rw [e2]
      rfl
     ·have bz : ((m : Int) == 0) = false := beq_eq_false_iff_ne.2 (by omega)
      have HZ := Lib.hid hz
      clear hz
      go_wp2_with ((with_reducible refine RD2.out.mono ?_); rintro e w4 ⟨RA, Rc, rfl, hb4⟩; have HB4 := Lib.hid (HBr2.out.trans (hb4.mono HBr2.out.size)); clear hb4)
      go_roundw
      case rel => exact ⟨j + 1, by omega, by go_num, ⟨by rw [HN2.out, HD2.out]; exact if_neg (by rw [HM.out]; exact HZ.out)⟩, ⟨HB4.out⟩⟩
      case measure => simp [intOf]; omega
    ·obtain rfl : j = l.length - 1 := by omega
     have bl : decide (((l.length - 1 : Nat) : Int) < (l.length : Int) - 1) = false := decide_eq_false (by omega)
     go_wp2
     go_ret
     refine ⟨?_, HBr2.out⟩
     have e1 : ¬ unread l (l.length - 1) 0 = true := by rw [HN2.out, Nat.sub_self]; exact Bool.false_ne_true
     have e2 : F = 0 := by rw [← HF3.out, if_neg e1]
     rw [e2]
     rfl
end Go.Proofs.Ytpidiibhgfjemaa.PLh
end
section
namespace Go.Proofs.Ytpidiibhgfjemaa.PLh
open Go.Proofs.Ytpidiibhgfjemaa.PLg
open Go.RowKit Go.Proofs.YtpidiibhgfjemaaW.PrintWords Go.Proofs.YtpidiibhgfjemaaW.PrintLast Go.Proofs.YtpidiibhgfjemaaW.PrintMore
open Go.Proofs.Ytpidiibhgfjemaa.EvP (U w64)
open Go.Proofs.Ytpidiibhgfjemaa.PLn
set_option linter.unusedVariables false
end Go.Proofs.Ytpidiibhgfjemaa.PLh
end
section
namespace Go.Proofs.Ytpidiibhgfjemaa.PLh
open Go.Proofs.Ytpidiibhgfjemaa.PLg
open Go.RowKit Go.Proofs.YtpidiibhgfjemaaW.PrintWords Go.Proofs.YtpidiibhgfjemaaW.PrintLast Go.Proofs.YtpidiibhgfjemaaW.PrintMore
open Go.Proofs.Ytpidiibhgfjemaa.Run hiding own_slice
set_option linter.unusedVariables false
end Go.Proofs.Ytpidiibhgfjemaa.PLh
end
section
namespace Go.Proofs.Ytpidiibhgfjemaa.PLh
open Go.Proofs.Ytpidiibhgfjemaa.PLg
open Go.RowKit Go.Proofs.YtpidiibhgfjemaaW.PrintWords Go.Proofs.YtpidiibhgfjemaaW.PrintLast Go.Proofs.YtpidiibhgfjemaaW.PrintMore
set_option linter.unusedVariables false
end Go.Proofs.Ytpidiibhgfjemaa.PLh
end
section
namespace Go.Proofs.Ytpidiibhgfjemaa.PLh
open Go.Proofs.Ytpidiibhgfjemaa.PLg
open Go.RowKit Go.Proofs.YtpidiibhgfjemaaW.PrintWords Go.Proofs.YtpidiibhgfjemaaW.PrintLast Go.Proofs.YtpidiibhgfjemaaW.PrintMore
set_option linter.unusedVariables false
def cntN (x : S40) : Bool := x.f7.f0 == 3
theorem cnt1_calls (X : S40) (A3 : Option Addr) (c3 : Nat) (A4 : Option Addr) (c4 : Nat) (A5 : Option Addr) (c5 : Nat) (A6 : Option Addr) (c6 : Nat) (w : World) :
  Calls Try.prog 17 #[.agg #[.int .i64 X.f0, .int .i64 X.f1, .int .i64 X.f2, .slice A3 X.f3.length c3, .slice A4 X.f4.length c4, .slice A5 X.f5.length c5, .slice A6 X.f6.length c6, .int .i64 X.f7.f0, .int .i64 X.f7.f1, .int .i64 X.f7.f2, .int .i64 X.f8, .int .i64 X.f9]] w fun e w' => e = .returned (.bool (cntN X)) ∧ Below w.heap.size w w' := by
 have hu := Try.underlying40
 have hu2 := Try.underlying34
 have HB := Lib.hid (below_alloc (Below.refl _ w) (.cells #[.int .i64 X.f0, .int .i64 X.f1, .int .i64 X.f2, .slice A3 X.f3.length c3, .slice A4 X.f4.length c4, .slice A5 X.f5.length c5, .slice A6 X.f6.length c6, .int .i64 X.f7.f0, .int .i64 X.f7.f1, .int .i64 X.f7.f2, .int .i64 X.f8, .int .i64 X.f9] 40 (0, 0)))
 go_enter Try.func17, Try.ntmps17
 go_wp2
 go_ret
 exact ⟨rfl, HB.out⟩
set_option maxHeartbeats 800000 in
set_option maxRecDepth 100000 in
theorem ix_cnt (A0 : Option Addr) (c0 : Nat) (l : List S40) (w : World) (hr0 : Kd.C k40 w A0 l.length l) (hl : l.length ≤ 1000000000) :
  Calls Try.prog 23 #[.slice A0 l.length c0, .func (Fn.func 17) #[] #[]] w fun e w' => (∃ r : Int, e = .returned (.int .i64 r) ∧ decide (0 ≤ r) = l.any cntN) ∧ Below w.heap.size w w' := by
 have hfn : ∀ args w, (callFunc 17 args).run Try.prog w = .ok (.enter 17 args) w := enters_of Try.func17 (by kernel_rfl) rfl
 have HR := Aside0.mk hr0
 clear hr0
 go_enter Try.func23, Try.ntmps23
 go_wp2
 go_loopw [8] (fun v8 wr => ∃ k : Nat, k ≤ l.length ∧ v8 = .int .i64 (k : Int) ∧ Aside0 (∀ x ∈ l.take k, cntN x = false) ∧ Aside0 (Below w.heap.size w wr)) (fun v8 wr => l.length - (intOf v8).toNat)
 case atStart => exact ⟨0, by omega, rfl, ⟨by simp⟩, ⟨Below.refl _ _⟩⟩
 case round =>
  obtain ⟨k, hk, rfl, HN, HB⟩ := hrel
  by_cases c : k < l.length
  ·obtain ⟨X, hX⟩ : ∃ X, l[k] = X := ⟨_, rfl⟩
   obtain ⟨ad, A3, c3, A4, c4, A5, c5, A6, c6, e1, hx0, hx1, hx2, hx3, hx4, hx5, hx6, hx7, hx8, hx9, hx10, hx11, q3, g3, q4, g4, q5, g5, q6, g6⟩ := at_T40 (Kd.C_below HR.out HB.out) (k : Int) (by omega) (by omega)
   have hrd : rd_T40 l (k : Int) = X := by
    unfold rd_T40
    rw [Int.toNat_natCast, List.getD_eq_getElem?_getD, List.getElem?_eq_getElem c]
    exact hX
   rw [Int.toNat_natCast, hrd] at hx0 hx1 hx2 hx3 hx4 hx5 hx6 hx7 hx8 hx9 hx10 hx11
   clear hrd
   cases e1
   have P := Lib.hid (fun w1 => cnt1_calls X A3 c3 A4 c4 A5 c5 A6 c6 w1)
   clear q3 g3 q4 g4 q5 g5 q6 g6
   have HX := Lib.hid hX
   clear hX
   cases hpx : cntN X
   ·have P2 := Lib.hid (fun w1 => by have := P.out w1; rw [hpx] at this; exact this)
    have HPX := Lib.hid hpx
    clear P hpx
    go_wp2_with ((with_reducible refine (P2.out _).mono ?_); rintro e w' ⟨rfl, hb⟩)
    go_roundw
    case rel =>
     refine ⟨k + 1, by omega, by go_num, ⟨fun x hx => ?_⟩, ⟨HB.out.trans (hb.mono HB.out.size)⟩⟩
     have hx' := (ix_mem_take l k c x).1 hx
     cases hx' with
     | inl h => exact HN.out x h
     | inr h => rw [h, HX]; exact HPX
    case measure => simp [intOf]; omega
   ·have P2 := Lib.hid (fun w1 => by have := P.out w1; rw [hpx] at this; exact this)
    have hany : l.any cntN = true := by
     rw [List.any_eq_true]
     exact ⟨X, by rw [← HX.out]; exact List.getElem_mem c, hpx⟩
    have HANY := Lib.hid hany
    clear P hpx hany
    go_wp2_with ((with_reducible refine (P2.out _).mono ?_); rintro e w' ⟨rfl, hb⟩)
    go_ret
    exact ⟨⟨k, rfl, by rw [HANY.out]; simp⟩, HB.out.trans (hb.mono HB.out.size)⟩
  ·obtain rfl : k = l.length := by omega
   have hany : l.any cntN = false := by
    rw [List.any_eq_false]
    intro x hx
    have := HN.out x (by rw [List.take_length]; exact hx)
    simp [this]
   have HANY := Lib.hid hany
   clear hany
   go_wp2
   go_ret
   exact ⟨⟨-1, rfl, by rw [HANY.out]; rfl⟩, HB.out⟩
theorem has_cnt (A0 : Option Addr) (c0 : Nat) (l : List S40) (w : World) (hr0 : Kd.C k40 w A0 l.length l) (hl : l.length ≤ 1000000000) :
  Calls Try.prog 16 #[.slice A0 l.length c0, .func (Fn.func 17) #[] #[]] w fun e w' => e = .returned (.bool (l.any cntN)) ∧ Below w.heap.size w w' := by
 have C := Lib.hid (ix_cnt A0 c0 l w hr0 hl)
 clear hr0 hl
 go_enter Try.func16, Try.ntmps16
 go_wp2_with (go_at_call 23; ((with_reducible refine C.out.mono ?_); rintro e w' ⟨⟨r, rfl, hr⟩, hb⟩; have HRR := Lib.hid hr; clear hr))
 go_ret
 exact ⟨by rw [← HRR.out]; rfl, hb⟩
theorem Counting_calls (A0 : Option Addr) (c0 : Nat) (l : List S40) (w : World) (hr0 : Kd.C k40 w A0 l.length l) (hl : l.length ≤ 1000000000) :
  Calls Try.prog 9 #[.slice A0 l.length c0] w fun e w' => e = .returned (.bool (l.any cntN)) ∧ Below w.heap.size w w' := by
 have HC := Lib.hid (has_cnt A0 c0 l w hr0 hl)
 clear hr0 hl
 go_enter Try.func9, Try.ntmps9
 go_wp2_with ((with_reducible refine HC.out.mono ?_); rintro e w' ⟨rfl, hb⟩)
 go_ret
 exact ⟨rfl, hb⟩
end Go.Proofs.Ytpidiibhgfjemaa.PLh
end
section
namespace Go.Proofs.Ytpidiibhgfjemaa.PLh
open Go.Proofs.Ytpidiibhgfjemaa.PLg
open Go.RowKit Go.Proofs.YtpidiibhgfjemaaW.PrintWords Go.Proofs.YtpidiibhgfjemaaW.PrintLast Go.Proofs.YtpidiibhgfjemaaW.PrintMore
set_option linter.unusedVariables false
def atL (out : List Int) (i : Int) : Int := out.getD i.toNat 0
def grt (out : List Int) : List Int → Int → Int
 | [], m => m
 | r :: rs, m => grt out rs (if m < atL out r then atL out r else m)
theorem grt_bd (out : List Int) (B : Int) (ho : ∀ i, 0 ≤ atL out i ∧ atL out i ≤ B) : ∀ (rs : List Int) (m : Int), 0 ≤ m → m ≤ B → 0 ≤ grt out rs m ∧ grt out rs m ≤ B
 | [], m, h0, h1 => ⟨h0, h1⟩
 | r :: rs, m, h0, h1 => by
  have := ho r
  unfold grt
  refine grt_bd out B ho rs _ ?_ ?_ <;> split <;> omega
set_option maxHeartbeats 1000000 in
set_option maxRecDepth 100000 in
theorem greatest_calls (bx : Nat) (A : Option Addr) (c : Nat) (out : List Int) (RA : Option Addr) (Rc : Nat) (rs : List Int) (w : World) (hc : w.cell? ⟨bx, 0, none⟩ = some (.slice A out.length c))
  (ho : Kd.C (Kd.int .i64) w A out.length out) (hr : Kd.C (Kd.int .i64) w RA rs.length rs) (hl : rs.length ≤ 2) (hi : ∀ r ∈ rs, 0 ≤ r ∧ r < out.length) :
  Calls Try.prog 12 #[.slice RA rs.length Rc, .pointer (some ⟨bx, 0, none⟩)] w fun e w' => e = .returned (.int .i64 (grt out rs 0)) ∧ Below w.heap.size w w' := by
 have HO := Lib.hid ho
 have HR := Lib.hid hr
 have HI := Lib.hid hi
 clear ho hr hi
 go_enter Try.func12, Try.ntmps12
 go_wp2
 go_loopw [4, 9] (fun v4 v9 wr => ∃ (k : Nat) (m : Int), k ≤ rs.length ∧ v9 = .int .i64 (k : Int) ∧ v4 = .int .i64 m ∧ Aside0 (grt out rs 0 = grt out (rs.drop k) m) ∧ Aside0 (Below w.heap.size w wr)) (fun v4 v9 wr => rs.length - (intOf v9).toNat)
 case atStart => exact ⟨0, 0, by omega, rfl, rfl, ⟨rfl⟩, ⟨Below.refl _ _⟩⟩
 case round =>
  obtain ⟨k, m, hk, rfl, rfl, HN, HB⟩ := hrel
  by_cases ck : k < rs.length
  ·obtain ⟨Y, hY⟩ : ∃ Y, rs[k] = Y := ⟨_, rfl⟩
   obtain ⟨hY0, hY1⟩ := HI.out Y (by rw [← hY]; exact List.getElem_mem ck)
   obtain ⟨y, rfl⟩ : ∃ y : Nat, Y = (y : Int) := ⟨Y.toNat, by omega⟩
   have hy : y < out.length := by omega
   obtain ⟨Z, hZ⟩ : ∃ Z, out[y] = Z := ⟨_, rfl⟩
   obtain ⟨ad2, e2, hx0⟩ := ix_at_int (Kd.C_below HR.out HB.out) k ck
   rw [hY] at hx0
   cases e2
   obtain ⟨ad3, e3, hz0⟩ := ix_at_int (Kd.C_below HO.out HB.out) y hy
   rw [hZ] at hz0
   cases e3
   have hcw := pw_cell_below HB.out hc
   have HD := Lib.hid (show grt out (rs.drop k) m = grt out (rs.drop (k + 1)) (if m < Z then Z else m) by
    rw [List.drop_eq_getElem_cons ck, hY]
    show grt out _ (if m < atL out (y : Int) then atL out (y : Int) else m) = _
    have : atL out (y : Int) = Z := by unfold atL; rw [Int.toNat_natCast, List.getD_eq_getElem?_getD, List.getElem?_eq_getElem hy]; exact hZ
    rw [this])
   clear hY hZ hY0 hY1
   go_wp2
   go_roundw
   case rel => exact ⟨k + 1, _, by omega, by go_num, rfl, ⟨by rw [HN.out, HD.out]⟩, ⟨HB.out⟩⟩
   case measure => simp [intOf]; omega
  ·obtain rfl : k = rs.length := by omega
   have HN2 := Lib.hid (show grt out rs 0 = m by rw [HN.out, List.drop_length]; rfl)
   go_wp2
   go_ret
   exact ⟨by rw [HN2.out]; rfl, HB.out⟩
def lagN (x : S40) (out : List Int) : Int := if x.f7.f0 = 2 then grt out (readsN x) 0 + (x.f7.f1 - 1) else grt out (readsN x) 0
def lags : List S40 → List Int → List Int
 | [], out => out
 | x :: xs, out => lags xs (out ++ [lagN x out])
structure NodeOk (x : S40) (k : Nat) : Prop where
 reads : ∀ r ∈ readsN x, 0 ≤ r ∧ r < (k : Int)
 size : x.f7.f0 = 2 → 1 ≤ x.f7.f1 ∧ x.f7.f1 ≤ 1099511627776
theorem nodeOk_of (x : S40) (k : Nat) (h : formAt x (k : Int) = 0) : NodeOk x k := by
 unfold formAt formN at h
 split at h
 ·cases h
 rename_i h1
 split at h
 ·cases h
 split at h
 ·cases h
 rename_i hok
 split at h
 ·cases h
 split at h
 ·cases h
 rename_i hr
 refine ⟨fun r hm => ?_, fun h2 => ?_⟩
 ·have h3 : ¬ (decide (r < 0) || decide (r ≥ (k : Int))) = true := fun h4 => hr (List.any_eq_true.2 ⟨r, hm, h4⟩)
  simp at h3
  omega
 ·have hok' : okB x.f0 x.f1 x.f2 x.f3 x.f4 x.f5 x.f6 x.f7.f0 x.f7.f1 x.f7.f2 x.f8 x.f9 = true := by simpa using hok
  have hw : (!x.f7.f0 == 0 || (!x.f7.f1 == 0 || !x.f7.f2 == 0)) = true := by rw [h2]; rfl
  have hk : x.f0 = 1 ∨ x.f0 = 2 ∨ x.f0 = 3 ∨ x.f0 = 4 ∨ x.f0 = 5 ∨ x.f0 = 6 ∨ x.f0 = 7 ∨ x.f0 = 8 ∨ x.f0 = 9 := by omega
  have hc : chkS x.f7.f0 x.f7.f1 x.f7.f2 = true := by
   rcases hk with e | e | e | e | e | e | e | e | e <;> rw [e] at hok'
   ·rw [ok_1, hw] at hok'; simp at hok'
   ·rw [ok_2, hw] at hok'; simp at hok'
   ·rw [ok_3, hw] at hok'; simp at hok'
   ·rw [ok_4, hw] at hok'; simp at hok'
   ·rw [ok_5, hw] at hok'; simp at hok'
   ·rw [ok_6, hw] at hok'; simp at hok'
   ·rw [ok_7, hw] at hok'; simp at hok'
   ·rw [ok_8, rmay_eq] at hok'; simp at hok'; simp [hok']
   ·rw [ok_9, rmay_eq] at hok'; simp at hok'; simp [hok']
  unfold chkS at hc
  rw [h2] at hc
  unfold spanB at hc
  simp at hc
  omega
theorem firstBad_ok : ∀ (l : List S40) (k : Nat), firstBad l k = 0 → ∀ i (h : i < l.length), NodeOk l[i] (k + i)
 | [], _, _, i, h => absurd h (Nat.not_lt_zero i)
 | x :: xs, k, hb, i, h => by
  unfold firstBad at hb
  split at hb
  ·rename_i h0
   match i with
   | 0 => exact nodeOk_of x k h0
   | i + 1 =>
    have := firstBad_ok xs (k + 1) hb i (by simpa using h)
    rw [show k + (i + 1) = k + 1 + i by omega]
    exact this
  ·exact absurd hb (by assumption)
end Go.Proofs.Ytpidiibhgfjemaa.PLh
end
section
namespace Go.Proofs.Ytpidiibhgfjemaa.PLh
open Go.Proofs.Ytpidiibhgfjemaa.PLg
open Go.RowKit Go.Proofs.YtpidiibhgfjemaaW.PrintWords Go.Proofs.YtpidiibhgfjemaaW.PrintLast Go.Proofs.YtpidiibhgfjemaaW.PrintMore
open Go.Proofs.Ytpidiibhgfjemaa.Run hiding own_slice
set_option linter.unusedVariables false
theorem R_of_nums {W : World} {base : Nat} {v : Value} {xs : List Int} (h : W.ownsRow base 3 1 v xs.length (nums .i64 xs)) : Kd.R (Kd.int .i64) 3 W base (fun _ => True) v xs := by
 refine ⟨fun _ _ => trivial, nums .i64 xs, h, by simp [nums, Kd.int, Kd.scalar], fun j p hp => ?_⟩
 show ((nums .i64 xs).drop (j * 1)).take 1 = [.int .i64 p]
 have hj := (List.getElem?_eq_some_iff.1 hp)
 obtain ⟨hj, e⟩ := hj
 rw [Nat.mul_one, List.drop_eq_getElem_cons (by simpa [nums] using hj)]
 simp [nums, e]
def errV (l : List S40) : Int := if formP l = 0 then (if l.any cntN = true then 8 else 0) else formP l
theorem formP_len (l : List S40) (h : formP l = 0) : 1 ≤ l.length ∧ l.length ≤ 10 ∧ firstBad l 0 = 0 := by
 unfold formP at h
 split at h
 ·cases h
 split at h
 ·cases h
 split at h
 ·rename_i h0 h1 h2
  exact ⟨by omega, by omega, h2⟩
 ·exact absurd h (by assumption)
theorem infoInt : (Try.prog.info? 3).map (fun i => (i.zero, i.size, i.bytes)) = some (some (.int .i64 0), 1, 8) := by kernel_rfl
theorem mk_ints (n : Nat) (hn : n ≤ 1000) : ∃ MC : Array Value, MC.size = n ∧ ∀ w : World, (Instr.makeSlice 25 (.int .i64 0) (.int .i64 (n : Int))).run Try.prog w = .ok (.slice (some ⟨w.heap.size, 0, none⟩) 0 n) (w.alloc (.cells MC 3)) := by
 obtain ⟨i0, hi0, hz0, hz1, hz2⟩ := info_parts infoInt
 have hu : Try.prog.underlying 25 = some (.slice 3) := by kernel_rfl
 refine ⟨madeCells #[.int .i64 0] n, ?_, fun w => ?_⟩
 ·exact size_madeCells _ _
 ·have := run_makeSlice (P := Try.prog) w 25 3 i0 _ hu hi0 hz0 .i64 .i64 0 (n : Int) (by omega) (by omega) (by rw [hz1]; simp; omega) (by rw [hz2]; omega) (by omega)
  rw [this, hz1]
  simp
  rfl
set_option maxHeartbeats 4000000 in
set_option maxRecDepth 100000 in
theorem Nodes_calls (A0 : Option Addr) (c0 : Nat) (l : List S40) (w : World) (hr0 : Kd.C k40 w A0 l.length l) :
  Calls Try.prog 6 #[.slice A0 l.length c0] w fun e w' => ∃ v, e = .returned (.tuple #[v, .int .i64 (errV l)]) ∧ Kd.R (Kd.int .i64) 3 w' w.heap.size (fun _ => True) v (if errV l = 0 then lags l [] else []) ∧ Below w.heap.size w w' := by
 obtain ⟨E, hE0⟩ : ∃ E, errV l = E := ⟨_, rfl⟩
 obtain ⟨RS, hRS⟩ : ∃ RS, (if E = 0 then lags l [] else []) = RS := ⟨_, rfl⟩
 rw [hE0, hRS]
 have HE0 := Lib.hid hE0
 have HRS := Lib.hid hRS
 clear hE0 hRS
 have FC := Lib.hid (Form_calls A0 c0 l w hr0)
 have HR := Lib.hid hr0
 clear hr0
 have hu := Try.underlying40
 have hu2 := Try.underlying34
 obtain ⟨F, hF⟩ : ∃ F, formP l = F := ⟨_, rfl⟩
 rw [hF] at FC
 by_cases hz : F = 0
 case neg =>
  have bz : (F != 0) = true := by simp [hz]
  have HE := Lib.hid (show E = F by rw [← HE0.out]; unfold errV; rw [hF, if_neg hz])
  have HZ := Lib.hid hz
  clear hz hF
  go_enter Try.func6, Try.ntmps6
  go_wp2_with ((with_reducible refine FC.out.mono ?_); rintro e w1 ⟨rfl, hb1⟩; have HB1 := Lib.hid hb1; clear hb1)
  go_ret2
  exact ⟨_, by rw [HE.out]; rfl, by rw [← HRS.out, HE.out, if_neg HZ.out]; exact Kd.R_nil _ _ _ _ _, HB1.out⟩
 have bz : (F != 0) = false := by simp [hz]
 obtain ⟨hl1, hl10, hfb⟩ := formP_len l (hF.trans hz)
 have CC := Lib.hid (fun (w1 : World) (hb : Below w.heap.size w w1) => Counting_calls A0 c0 l w1 (Kd.C_below HR.out hb) (by omega))
 by_cases hc : l.any cntN = true
 ·have HE := Lib.hid (show E = 8 by rw [← HE0.out]; unfold errV; rw [hF, if_pos hz, if_pos hc])
  rw [hc] at CC
  clear hz hF hc hl1 hl10 hfb
  go_enter Try.func6, Try.ntmps6
  go_wp2_with (first
   | (go_at_call 11; (with_reducible refine FC.out.mono ?_); rintro e w1 ⟨rfl, hb1⟩; have HB1 := Lib.hid hb1; clear hb1)
   | (go_at_call 9; (with_reducible refine (CC.out _ HB1.out).mono ?_); rintro e w2 ⟨rfl, hb2⟩; have HB2 := Lib.hid (HB1.out.trans (hb2.mono HB1.out.size)); clear hb2))
  go_ret2
  exact ⟨_, by rw [HE.out]; rfl, by rw [← HRS.out, HE.out]; exact Kd.R_nil _ _ _ _ _, HB2.out⟩
 have HE := Lib.hid (show E = 0 by rw [← HE0.out]; unfold errV; rw [hF, if_pos hz, if_neg hc])
 have hc' : l.any cntN = false := by simpa using hc
 rw [hc'] at CC
 have HNO := Lib.hid (fun i (h : i < l.length) => (Nat.zero_add i ▸ firstBad_ok l 0 hfb i h : NodeOk l[i] i))
 clear hz hF hc hc' hfb
 obtain ⟨MC, hMC, HMK⟩ := mk_ints l.length (by omega)
 have HMC := Lib.hid hMC
 have HL10 := Lib.hid hl10
 clear hMC
 go_enter Try.func6, Try.ntmps6
 go_wp2_with (first
  | (go_at_call 11; (with_reducible refine FC.out.mono ?_); rintro e w1 ⟨rfl, hb1⟩; have HB1 := Lib.hid hb1; clear hb1)
  | (go_at_call 9; (with_reducible refine (CC.out _ HB1.out).mono ?_); rintro e w2 ⟨rfl, hb2⟩; have HB2 := Lib.hid (HB1.out.trans (hb2.mono HB1.out.size)); clear hb2))
 obtain ⟨ii, hii, hiz, hi1, hi8⟩ := info_parts infoInt
 have hui : Try.prog.underlying 25 = some (.slice 3) := by kernel_rfl
 go_loopw [23] (fun v23 wr => ∃ (out : List Int) (A : Option Addr) (c : Nat), out.length ≤ l.length ∧ v23 = .int .i64 (out.length : Int) ∧ Aside0 (lags l [] = lags (l.drop out.length) out) ∧ Aside0 (∀ i, 0 ≤ atL out i ∧ atL out i ≤ (out.length : Int) * 1099511627776) ∧ Aside0 (Boxed wr (w2.heap.size + 1) 25 (.slice A out.length c)) ∧ Aside0 (wr.ownsRow w.heap.size 3 1 (.slice A out.length c) out.length (nums .i64 out)) ∧ Aside0 (Below w.heap.size w wr)) (fun v23 wr => l.length - (intOf v23).toNat)
 case atStart =>
  refine ⟨[], some ⟨w2.heap.size, 0, none⟩, l.length, by simp, rfl, ⟨rfl⟩, ⟨fun i => by simp [atL]⟩, ⟨?_⟩, ⟨⟨rfl, .inr ⟨w2.heap.size, l.length, MC, rfl, HB2.out.size, ?_, by simp, by have := HL10.out; unfold maxLen; omega, by rw [HMC.out]; simp, rfl⟩⟩⟩, ⟨below_alloc (below_alloc HB2.out _) _⟩⟩
  ·have h1 := blk_new (w2.alloc (.cells MC 3)) (.cells #[.slice (some ⟨w2.heap.size, 0, none⟩) 0 l.length] 25 (0, 0))
   rw [World.size_alloc] at h1
   exact h1
  ·exact blk_alloc (blk_new w2 _) _
 case round =>
  obtain ⟨out, A, c, hk, rfl, HEQ, HBD, HBX, HO, HBr⟩ := hrel
  by_cases ck : out.length < l.length
  ·obtain ⟨X, hX⟩ : ∃ X, l[out.length] = X := ⟨_, rfl⟩
   obtain ⟨ad, A3, c3, A4, c4, A5, c5, A6, c6, e1, hx0, hx1, hx2, hx3, hx4, hx5, hx6, hx7, hx8, hx9, hx10, hx11, q3, g3, q4, g4, q5, g5, q6, g6⟩ := at_T40 (Kd.C_below HR.out HBr.out) (out.length : Int) (by omega) (by omega)
   have hrd : rd_T40 l (out.length : Int) = X := by
    unfold rd_T40
    rw [Int.toNat_natCast, List.getD_eq_getElem?_getD, List.getElem?_eq_getElem ck]
    exact hX
   rw [Int.toNat_natCast, hrd] at hx0 hx1 hx2 hx3 hx4 hx5 hx6 hx7 hx8 hx9 hx10 hx11
   rw [hrd] at q3 g3 q4 g4 q5 g5 q6 g6
   clear hrd
   cases e1
   have HOK := Lib.hid (hX ▸ HNO.out out.length ck : NodeOk X out.length)
   have HD := Lib.hid (show lags l [] = lags (l.drop (out.length + 1)) (out ++ [lagN X out]) by rw [HEQ.out, List.drop_eq_getElem_cons ck, hX]; rfl)
   have RD := Lib.hid (fun (W1 : World) (hb : Below wr.heap.size wr W1) => reads_calls X.f0 X.f1 X.f2 A3 c3 X.f3 A4 c4 X.f4 A5 c5 X.f5 A6 c6 X.f6 X.f7.f0 X.f7.f1 X.f7.f2 X.f8 X.f9 W1 (Kd.C_below g3 hb) q3 (Kd.C_below g4 hb) q4 (Kd.C_below g5 hb) q5 (Kd.C_below g6 hb) q6)
   have HRI := Lib.hid HOK.out.reads
   obtain ⟨rs, hrs⟩ : ∃ rs, readsT X.f0 X.f1 X.f2 = rs := ⟨_, rfl⟩
   have hrs' : readsN X = rs := hrs
   rw [hrs] at RD
   rw [hrs'] at HRI
   have HRL := Lib.hid (show rs.length ≤ 2 by rw [← hrs]; exact readsT_len _ _ _)
   have hG := grt_bd out _ HBD.out rs 0 (by omega) (by omega)
   obtain ⟨G, hGe⟩ : ∃ G, grt out rs 0 = G := ⟨_, rfl⟩
   have HRD := Lib.hid (Kd.R_reads' (R_of_nums HO.out)).2.2
   have HN1 := Lib.hid (below_alloc (Below.refl wr.heap.size wr) (.cells #[.int .i64 X.f0, .int .i64 X.f1, .int .i64 X.f2, .slice A3 X.f3.length c3, .slice A4 X.f4.length c4, .slice A5 X.f5.length c5, .slice A6 X.f6.length c6, .int .i64 X.f7.f0, .int .i64 X.f7.f1, .int .i64 X.f7.f2, .int .i64 X.f8, .int .i64 X.f9] 40 (0, 0)))
   have N0 := Lib.hid (blk_new wr (.cells #[.int .i64 X.f0, .int .i64 X.f1, .int .i64 X.f2, .slice A3 X.f3.length c3, .slice A4 X.f4.length c4, .slice A5 X.f5.length c5, .slice A6 X.f6.length c6, .int .i64 X.f7.f0, .int .i64 X.f7.f1, .int .i64 X.f7.f2, .int .i64 X.f8, .int .i64 X.f9] 40 (0, 0)))
   by_cases h2 : X.f7.f0 = 2
   ·have HLG := Lib.hid (show lagN X out = G + (X.f7.f1 - 1) by unfold lagN; rw [if_pos h2, hrs', hGe])
    obtain ⟨s1, s2⟩ := HOK.out.size h2
    have b2 : (X.f7.f0 == 2) = true := beq_iff_eq.2 h2
    rw [hGe] at hG
    have hgr : ∀ (A : Option Addr) (c : Nat) (RA : Option Addr) (Rc : Nat), grt out rs 0 = G := fun _ _ _ _ => hGe
    have HGE := Lib.hid hGe
    clear hX hrs hrs' hGe g3 q3 g4 q4 g5 q5 g6 q6 h2 hgr
    go_wp2_with (first
     | (go_at_call 13; (with_reducible refine (RD.out _ HN1.out).mono ?_); rintro e w4 ⟨v0_, rfl, hR, hb4⟩; have HB4 := Lib.hid (HN1.out.trans (hb4.mono HN1.out.size)); obtain ⟨RA, Rc, hRe⟩ := Kd.R_slice hR; subst hRe; have HR4 := Lib.hid (Kd.R_reads' hR).2.2; have G4 := Lib.hid (fun (_ : True) => (HGE.out ▸ greatest_calls (w2.heap.size + 1) A c out RA Rc rs w4 (pw_cell_below HB4.out HBX.out.cell) (Kd.C_below HRD.out HB4.out) HR4.out HRL.out HRI.out)); have N4 := Lib.hid (loop_cells hb4 (v := _) ⟨rfl, rfl, rfl, rfl⟩ N0.out); clear hb4 hR)
     | (with_reducible refine (G4.out trivial).mono ?_; rintro e w5 ⟨rfl, hb5⟩; have HB5 := Lib.hid (HB4.out.trans (hb5.mono HB4.out.size)); have N5 := Lib.hid (loop_cells hb5 (v := _) ⟨rfl, rfl, rfl, rfl⟩ N4.out); have y7 : w5.cell? ⟨wr.heap.size, 7, none⟩ = some (.int .i64 X.f7.f0) := (blk_cell N5.out 7).trans rfl; have y8 : w5.cell? ⟨wr.heap.size, 8, none⟩ = some (.int .i64 X.f7.f1) := (blk_cell N5.out 8).trans rfl; have ybx : w5.cell? ⟨w2.heap.size + 1, 0, none⟩ = some (.slice A out.length c) := pw_cell_below HB5.out HBX.out.cell; have HO5 := Lib.hid ((Grow.row 0 _ _ _ _ _ _).below HO.out HB5.out); have HBX5 := Lib.hid ((Grow.boxed 0 _ _ _).below HBX.out HB5.out); clear hb5)
     | (refine wpList_append_own_at _ rfl _ _ _ rfl w.heap.size 3 ii _ 1 8 hui hii hiz hi1 hi8 rfl (by omega) _ out.length (nums .i64 out) rfl ((Grow.row 0 _ _ _ _ _ _).below HO5.out (below_alloc (Below.refl _ w5) _)) ⟨w5.heap.size, 0, none⟩ 1 1 [.int .i64 (G + (X.f7.f1 - 1))] rfl rfl ?pc ?p1c ?pb1 ?pb2 ?pb3 ?_))
    case pc =>
     intro j1 u hju
     match j1 with
     | 0 => cases hju; exact (blk_cell (blk_new w5 _) 0).trans rfl
     | j1 + 1 => cases hju
    case p1c =>
     intro u hu
     rcases List.mem_cons.1 hu with rfl | hu
     ·rfl
     ·cases hu
    case pb1 => have := HL10.out; unfold maxLen; omega
    case pb2 => have := HL10.out; omega
    case pb3 => have := HBr.out.size; have := HB5.out.size; rw [World.size_alloc]; omega
    intro v' w6 hown' hgrow _ hat
    obtain ⟨g1, cap1, rfl⟩ := ownsRow_succ hown'
    obtain ⟨hb1, hb2, hr2, hs2, hS2⟩ := appended_step (B := w2.heap.size + 1) (t := 25) HBX5.out (by decide) HO5.out (by have := HBr.out.size; have := HB5.out.size; omega) (by have := HB2.out.size; omega) hown' hgrow (by rw [World.size_alloc]; exact hat)
    have hcl1 := hb1.cell
    have hfr1 := hb1.frozen
    have HX1 := Lib.hid hb2
    have HX2 := Lib.hid hr2
    have HX3 := Lib.hid (HBr.out.trans ((HB5.out.mono HBr.out.size).trans (hs2.below (n := w.heap.size) (by have := HBr.out.size; have := HB5.out.size; omega) (fun b hb => by
     rcases hb with rfl | hb
     ·have := HB2.out.size; omega
     ·exact (own_lt' HO5.out hb).1))))
    have hsp : nums .i64 out ++ [Value.int .i64 (G + (X.f7.f1 - 1))] = nums .i64 (out ++ [G + (X.f7.f1 - 1)]) := by simp [nums]
    have HSP := Lib.hid hsp
    have HG := Lib.hid hG
    clear hb2 hr2 hs2 hS2 hown' hgrow hat hsp
    go_wp2
    go_roundw
    case rel =>
     refine ⟨out ++ [G + (X.f7.f1 - 1)], some ⟨g1, 0, none⟩, cap1, by simp; omega, by simp, ⟨by rw [HD.out, HLG.out]; simp⟩, ⟨fun i => ?_⟩, ⟨by simpa using HX1.out⟩, ⟨by rw [← HSP.out]; simpa using HX2.out⟩, ⟨HX3.out⟩⟩
     have h1 := HBD.out i
     have h2 := HG.out
     have h3 : atL (out ++ [G + (X.f7.f1 - 1)]) i = atL out i ∨ atL (out ++ [G + (X.f7.f1 - 1)]) i = G + (X.f7.f1 - 1) ∨ atL (out ++ [G + (X.f7.f1 - 1)]) i = 0 := by
      unfold atL
      rw [List.getD_eq_getElem?_getD, List.getD_eq_getElem?_getD, List.getElem?_append]
      split
      ·exact .inl rfl
      ·by_cases h : i.toNat - out.length = 0
       ·rw [h]; exact .inr (.inl rfl)
       ·rw [List.getElem?_eq_none (by simp; omega)]; exact .inr (.inr rfl)
     rw [show ((out ++ [G + (X.f7.f1 - 1)]).length : Int) = out.length + 1 by simp]
     rcases h3 with h3 | h3 | h3 <;> rw [h3] <;> omega
    case measure => simp [intOf]; omega
   ·have HLG := Lib.hid (show lagN X out = G by unfold lagN; rw [if_neg h2, hrs', hGe])
    have b2 : (X.f7.f0 == 2) = false := beq_eq_false_iff_ne.2 h2
    rw [hGe] at hG
    have HGE := Lib.hid hGe
    clear hX hrs hrs' hGe g3 q3 g4 q4 g5 q5 g6 q6 h2
    go_wp2_with (first
     | (go_at_call 13; (with_reducible refine (RD.out _ HN1.out).mono ?_); rintro e w4 ⟨v0_, rfl, hR, hb4⟩; have HB4 := Lib.hid (HN1.out.trans (hb4.mono HN1.out.size)); obtain ⟨RA, Rc, hRe⟩ := Kd.R_slice hR; subst hRe; have HR4 := Lib.hid (Kd.R_reads' hR).2.2; have G4 := Lib.hid (fun (_ : True) => (HGE.out ▸ greatest_calls (w2.heap.size + 1) A c out RA Rc rs w4 (pw_cell_below HB4.out HBX.out.cell) (Kd.C_below HRD.out HB4.out) HR4.out HRL.out HRI.out)); have N4 := Lib.hid (loop_cells hb4 (v := _) ⟨rfl, rfl, rfl, rfl⟩ N0.out); clear hb4 hR)
     | (with_reducible refine (G4.out trivial).mono ?_; rintro e w5 ⟨rfl, hb5⟩; have HB5 := Lib.hid (HB4.out.trans (hb5.mono HB4.out.size)); have N5 := Lib.hid (loop_cells hb5 (v := _) ⟨rfl, rfl, rfl, rfl⟩ N4.out); have y7 : w5.cell? ⟨wr.heap.size, 7, none⟩ = some (.int .i64 X.f7.f0) := (blk_cell N5.out 7).trans rfl; have y8 : w5.cell? ⟨wr.heap.size, 8, none⟩ = some (.int .i64 X.f7.f1) := (blk_cell N5.out 8).trans rfl; have ybx : w5.cell? ⟨w2.heap.size + 1, 0, none⟩ = some (.slice A out.length c) := pw_cell_below HB5.out HBX.out.cell; have HO5 := Lib.hid ((Grow.row 0 _ _ _ _ _ _).below HO.out HB5.out); have HBX5 := Lib.hid ((Grow.boxed 0 _ _ _).below HBX.out HB5.out); clear hb5)
     | (refine wpList_append_own_at _ rfl _ _ _ rfl w.heap.size 3 ii _ 1 8 hui hii hiz hi1 hi8 rfl (by omega) _ out.length (nums .i64 out) rfl ((Grow.row 0 _ _ _ _ _ _).below HO5.out (below_alloc (Below.refl _ w5) _)) ⟨w5.heap.size, 0, none⟩ 1 1 [.int .i64 (G)] rfl rfl ?qc ?q1c ?qb1 ?qb2 ?qb3 ?_))
    case qc =>
     intro j1 u hju
     match j1 with
     | 0 => cases hju; exact (blk_cell (blk_new w5 _) 0).trans rfl
     | j1 + 1 => cases hju
    case q1c =>
     intro u hu
     rcases List.mem_cons.1 hu with rfl | hu
     ·rfl
     ·cases hu
    case qb1 => have := HL10.out; unfold maxLen; omega
    case qb2 => have := HL10.out; omega
    case qb3 => have := HBr.out.size; have := HB5.out.size; rw [World.size_alloc]; omega
    intro v' w6 hown' hgrow _ hat
    obtain ⟨g1, cap1, rfl⟩ := ownsRow_succ hown'
    obtain ⟨hb1, hb2, hr2, hs2, hS2⟩ := appended_step (B := w2.heap.size + 1) (t := 25) HBX5.out (by decide) HO5.out (by have := HBr.out.size; have := HB5.out.size; omega) (by have := HB2.out.size; omega) hown' hgrow (by rw [World.size_alloc]; exact hat)
    have hcl1 := hb1.cell
    have hfr1 := hb1.frozen
    have HX1 := Lib.hid hb2
    have HX2 := Lib.hid hr2
    have HX3 := Lib.hid (HBr.out.trans ((HB5.out.mono HBr.out.size).trans (hs2.below (n := w.heap.size) (by have := HBr.out.size; have := HB5.out.size; omega) (fun b hb => by
     rcases hb with rfl | hb
     ·have := HB2.out.size; omega
     ·exact (own_lt' HO5.out hb).1))))
    have hsp : nums .i64 out ++ [Value.int .i64 (G)] = nums .i64 (out ++ [G]) := by simp [nums]
    have HSP := Lib.hid hsp
    have HG := Lib.hid hG
    clear hb2 hr2 hs2 hS2 hown' hgrow hat hsp
    go_wp2
    go_roundw
    case rel =>
     refine ⟨out ++ [G], some ⟨g1, 0, none⟩, cap1, by simp; omega, by simp, ⟨by rw [HD.out, HLG.out]; simp⟩, ⟨fun i => ?_⟩, ⟨by simpa using HX1.out⟩, ⟨by rw [← HSP.out]; simpa using HX2.out⟩, ⟨HX3.out⟩⟩
     have h1 := HBD.out i
     have h2 := HG.out
     have h3 : atL (out ++ [G]) i = atL out i ∨ atL (out ++ [G]) i = G ∨ atL (out ++ [G]) i = 0 := by
      unfold atL
      rw [List.getD_eq_getElem?_getD, List.getD_eq_getElem?_getD, List.getElem?_append]
      split
      ·exact .inl rfl
      ·by_cases h : i.toNat - out.length = 0
       ·rw [h]; exact .inr (.inl rfl)
       ·rw [List.getElem?_eq_none (by simp; omega)]; exact .inr (.inr rfl)
     rw [show ((out ++ [G]).length : Int) = out.length + 1 by simp]
     rcases h3 with h3 | h3 | h3 <;> rw [h3] <;> omega
    case measure => simp [intOf]; omega
  ·have hll : out.length = l.length := by omega
   have HEQ2 := Lib.hid (show lags l [] = out by rw [HEQ.out, hll, List.drop_length]; rfl)
   have hbc := HBX.out.cell
   have HRR := Lib.hid (show Kd.R (Kd.int .i64) 3 wr w.heap.size (fun _ => True) (.slice A l.length c) (lags l []) by rw [HEQ2.out, ← hll]; exact R_of_nums HO.out)
   go_wp2
   go_ret2
   exact ⟨_, by rw [HE.out]; rfl, by rw [← HRS.out, HE.out, if_pos rfl]; exact HRR.out, HBr.out⟩
end Go.Proofs.Ytpidiibhgfjemaa.PLh
end
section
namespace Go.Proofs.Ytpidiibhgfjemaa.PLh
open Go.Proofs.Ytpidiibhgfjemaa.PLg
open Go.RowKit Go.Proofs.YtpidiibhgfjemaaW.PrintWords Go.Proofs.YtpidiibhgfjemaaW.PrintLast Go.Proofs.YtpidiibhgfjemaaW.PrintMore
set_option linter.unusedVariables false
def lag_Counting.f (l0 : List S40) : Option Bool := if l0.length ≤ 1000000000 then some (l0.any cntN) else none
theorem lag_Counting.calls (A0 : Option Addr) (c0 : Nat) (l0 : List (S40)) (r : Bool) (w : World) (hr0 : Kd.C k40 w A0 l0.length l0) (hc0 : l0.length ≤ c0) (h : lag_Counting.f l0 = some r) :
  Calls Try.prog 9 #[.slice A0 l0.length c0] w fun e w' => e = .returned (.bool r) ∧ Below w.heap.size w w' := by
 unfold lag_Counting.f at h
 split at h
 ·obtain rfl := Option.some.inj h
  exact Counting_calls A0 c0 l0 w hr0 (by assumption)
 ·cases h
def lag_Nodes.f (l0 : List S40) : Option (List Int × Int) := some (if errV l0 = 0 then lags l0 [] else [], errV l0)
theorem lag_Nodes.calls (A0 : Option Addr) (c0 : Nat) (l0 : List (S40)) (r1 : List Int) (r2 : Int) (w : World) (hr0 : Kd.C k40 w A0 l0.length l0) (hc0 : l0.length ≤ c0) (h : lag_Nodes.f l0 = some (r1, r2)) :
  Calls Try.prog 6 #[.slice A0 l0.length c0] w fun e w' => ∃ v0_ : Value, e = .returned (.tuple #[v0_, .int .i64 r2]) ∧ Kd.R (Kd.int .i64) 3 w' w.heap.size (fun _ => True) v0_ r1 ∧ Below w.heap.size w w' := by
 have h2 := Option.some.inj h
 obtain ⟨rfl, rfl⟩ := Prod.mk.inj h2
 exact Nodes_calls A0 c0 l0 w hr0
end Go.Proofs.Ytpidiibhgfjemaa.PLh
end
section
namespace Go.Proofs.Ytpidiibhgfjemaa.PLj
end Go.Proofs.Ytpidiibhgfjemaa.PLj
end
section
namespace Go.Proofs.Ytpidiibhgfjemaa.PLz
open Go.Proofs.Ytpidiibhgfjemaa.PLg Go.Proofs.Ytpidiibhgfjemaa.PLh Go.Proofs.Ytpidiibhgfjemaa.PLo Go.Proofs.Ytpidiibhgfjemaa.PLi Go.Proofs.Ytpidiibhgfjemaa.PLn Go.Proofs.Ytpidiibhgfjemaa.PLj
open Go.RowKit Go.Proofs.YtpidiibhgfjemaaW.PrintWords Go.Proofs.YtpidiibhgfjemaaW.PrintLast Go.Proofs.YtpidiibhgfjemaaW.PrintMore
attribute [local go_sem] max2_int min2_int max_two min_two max_three min_three max_four min_four
set_option linter.unusedVariables false
set_option linter.unusedSimpArgs false
theorem k40_mkF (W : World) (ok : Nat → Prop) (x : S40) {A3 : Option Addr} {c3 : Nat} (l3 : x.f3.length ≤ c3) (g3 : Kd.F (Kd.slice 79 k79) W ok A3 x.f3.length x.f3) {A4 : Option Addr} {c4 : Nat} (l4 : x.f4.length ≤ c4) (g4 : Kd.F Kd.string W ok A4 x.f4.length x.f4) {A5 : Option Addr} {c5 : Nat} (l5 : x.f5.length ≤ c5) (g5 : Kd.F (Kd.int .i64) W ok A5 x.f5.length x.f5) {A6 : Option Addr} {c6 : Nat} (l6 : x.f6.length ≤ c6) (g6 : Kd.F k43 W ok A6 x.f6.length x.f6) : Kd.FK k40 W ok x [.int .i64 x.f0, .int .i64 x.f1, .int .i64 x.f2, .slice A3 x.f3.length c3, .slice A4 x.f4.length c4, .slice A5 x.f5.length c5, .slice A6 x.f6.length c6, .int .i64 x.f7.f0, .int .i64 x.f7.f1, .int .i64 x.f7.f2, .int .i64 x.f8, .int .i64 x.f9] := fun W2 hW => k40_mk W2 x l3 (g3 W2 hW) l4 (g4 W2 hW) l5 (g5 W2 hW) l6 (g6 W2 hW)
end Go.Proofs.Ytpidiibhgfjemaa.PLz
end
