/- Texts of this claim, put together by a program: LgK7, LgK8, LgK9, LgL, PLix0, PLnx0, PLnx1. -/
import Derived.Test.YtpidiibhgfjemaaM8
import Derived.Test.YtpidiibhgfjemaaProg
import Derived.Below
import Derived.Deep.Draws
import Derived.Deep.AppendLies
import Derived.Maps.AppendAt
import Derived.OwnWalk
import Derived.Laws.BytesArg
import Derived.Laws.MakeOwn
import Derived.Laws.OwnMore
import Derived.Deep.OwnRows
import Derived.Tactics
import Derived.Lib.ConvBytes
import Derived.Laws.Slices
import Derived.WalkKit
import Derived.KernelRfl
import Derived.RowKit3
import Derived.Deep.LoopGhost
import Derived.Deep.QuietTactic
import Derived.BigQuiet
import Derived.WideLaws
import Derived.Deep.DeepCutAuto
import Derived.Deep.CutBlock
import Derived.Deep.RegionHeld3
import Derived.Laws.Rows
import Derived.Lib.AppendStr
import Derived.ArgAppend
import Derived.Laws.IdiomCopy
import Derived.OrdersHeld
import Derived.Laws.BitsLemmas
import Derived.RowKit
section
namespace Go.Proofs.Ytpidiibhgfjemaa.PLh
open Go.Proofs.Ytpidiibhgfjemaa.PLg
open Go.RowKit Go.Proofs.YtpidiibhgfjemaaW.PrintWords Go.Proofs.YtpidiibhgfjemaaW.PrintLast Go.Proofs.YtpidiibhgfjemaaW.PrintMore
set_option linter.unusedVariables false
set_option linter.unusedSimpArgs false
attribute [local go_sem high] eqA34
set_option maxHeartbeats 4000000 in
set_option maxRecDepth 100000 in
theorem fld7_calls (a0_1 : Int) (a0_2 : Int) (A0_3 : Option Addr) (c0_3 : Nat) (l0_3 : List (List (S79))) (A0_4 : Option Addr) (c0_4 : Nat) (l0_4 : List ByteArray) (A0_5 : Option Addr) (c0_5 : Nat) (l0_5 : List Int) (A0_6 : Option Addr) (c0_6 : Nat) (l0_6 : List (S43)) (a0_7 : Int) (a0_8 : Int) (a0_9 : Int) (a0_10 : Int) (a0_11 : Int) (w : World) (hr0_3 : Kd.C (Kd.slice 79 k79) w A0_3 l0_3.length l0_3) (hc0_3 : l0_3.length ≤ c0_3) (hr0_4 : Kd.C Kd.string w A0_4 l0_4.length l0_4) (hc0_4 : l0_4.length ≤ c0_4) (hr0_5 : Kd.C (Kd.int .i64) w A0_5 l0_5.length l0_5) (hc0_5 : l0_5.length ≤ c0_5) (hr0_6 : Kd.C k43 w A0_6 l0_6.length l0_6) (hc0_6 : l0_6.length ≤ c0_6) (hl4 : l0_4.length ≤ 1000) (hl5 : l0_5.length ≤ 1000) (hl6 : l0_6.length ≤ 1000) :
  Calls Try.prog 31 #[.agg #[.int .i64 7, .int .i64 a0_1, .int .i64 a0_2, .slice A0_3 l0_3.length c0_3, .slice A0_4 l0_4.length c0_4, .slice A0_5 l0_5.length c0_5, .slice A0_6 l0_6.length c0_6, .int .i64 a0_7, .int .i64 a0_8, .int .i64 a0_9, .int .i64 a0_10, .int .i64 a0_11]] w fun e w' => e = .returned (.bool (!(a0_2 != 0) && (!(a0_11 != 0) && (!(decide (0 < l0_4.length)) && (!(decide (0 < l0_6.length)) && (!(decide (0 < l0_5.length)) && (!(!a0_7 == 0 || (!a0_8 == 0 || !a0_9 == 0)) && (!(decide (0 < l0_3.length)) && (!(decide (a0_10 < 1)) && (!(decide (a0_10 > 1099511627776)) && (listsR l0_4 l0_5 l0_6))))))))))) ∧ Below w.heap.size w w' := by
 have hu := Try.underlying40
 have hu2 := Try.underlying34
 have TWO := Lib.hid (fun w => rescindref36_Two.calls 7 _ w rfl)
 have COL := Lib.hid (fun w => rcol_calls a0_11 w)
 have MAY := Lib.hid (fun w => rmay_calls a0_7 a0_8 a0_9 w)
 have HR4 := Aside0.mk hr0_4
 have HR5 := Aside0.mk hr0_5
 have HR6 := Aside0.mk hr0_6
 have HL := Lib.hid (And.intro hl4 (And.intro hl5 hl6))
 clear hr0_3 hc0_3 hr0_4 hc0_4 hr0_5 hc0_5 hr0_6 hc0_6 hl4 hl5 hl6
 have HB := Lib.hid (Below.alloc (Below.refl w.heap.size w) (Nat.le_refl _) (.cells #[.int .i64 7, .int .i64 a0_1, .int .i64 a0_2, .slice A0_3 l0_3.length c0_3, .slice A0_4 l0_4.length c0_4, .slice A0_5 l0_5.length c0_5, .slice A0_6 l0_6.length c0_6, .int .i64 a0_7, .int .i64 a0_8, .int .i64 a0_9, .int .i64 a0_10, .int .i64 a0_11] 40 (0, 0)))
 generalize hrc : rcolB a0_11 = rc at *
 generalize hrm : rmayB a0_7 a0_8 a0_9 = rm at *
 clear hrc hrm
 obtain ⟨v0, hv0⟩ : ∃ v, (a0_2 != 0) = v := ⟨_, rfl⟩
 obtain ⟨v1, hv1⟩ : ∃ v, (a0_11 != 0) = v := ⟨_, rfl⟩
 obtain ⟨v2, hv2⟩ : ∃ v, decide (0 < l0_4.length) = v := ⟨_, rfl⟩
 have hv2a : decide ((l0_4.length : Int) > 0) = v2 := by rw [← hv2]; first | rfl | simp
 obtain ⟨v3, hv3⟩ : ∃ v, decide (0 < l0_6.length) = v := ⟨_, rfl⟩
 have hv3a : decide ((l0_6.length : Int) > 0) = v3 := by rw [← hv3]; first | rfl | simp
 obtain ⟨v4, hv4⟩ : ∃ v, decide (0 < l0_5.length) = v := ⟨_, rfl⟩
 have hv4a : decide ((l0_5.length : Int) > 0) = v4 := by rw [← hv4]; first | rfl | simp
 obtain ⟨v5, hv5⟩ : ∃ v, (!a0_7 == 0 || (!a0_8 == 0 || !a0_9 == 0)) = v := ⟨_, rfl⟩
 have hv5a : (!(a0_7 == 0 && (a0_8 == 0 && a0_9 == 0))) = v5 := by rw [← hv5]; first | rfl | simp
 obtain ⟨v6, hv6⟩ : ∃ v, decide (0 < l0_3.length) = v := ⟨_, rfl⟩
 have hv6a : decide ((l0_3.length : Int) > 0) = v6 := by rw [← hv6]; first | rfl | simp
 obtain ⟨v7, hv7⟩ : ∃ v, decide (a0_10 < 1) = v := ⟨_, rfl⟩
 obtain ⟨v8, hv8⟩ : ∃ v, decide (a0_10 > 1099511627776) = v := ⟨_, rfl⟩
 go_enter Try.func31, Try.ntmps31
 go_upto_region 3 with (first
   | (go_at_call 48; (with_reducible refine (TWO.out _).mono ?_); rintro e w1 ⟨rfl, hd1⟩; obtain ⟨n1, rfl⟩ := hd1.out)
   | (go_at_call 49; (with_reducible refine (COL.out _).mono ?_); rintro e w1 ⟨rfl, hd1⟩; obtain ⟨n1, rfl⟩ := hd1.out)
   | (go_at_call 50; (with_reducible refine (MAY.out _).mono ?_); rintro e w1 ⟨rfl, hb1⟩; have H1 := Lib.hid (join_below HB.out hb1 ⟨rfl, rfl, rfl, rfl⟩ (by simp)); have N1 := Lib.hid (loop_cells hb1 (v := _) ⟨rfl, rfl, rfl, rfl⟩ (blk_new w _)); clear hb1))
 cases v0
 rotate_left
 ·go_wp2_with (first
    | (go_at_call 48; (with_reducible refine (TWO.out _).mono ?_); rintro e w1 ⟨rfl, hd1⟩; obtain ⟨n1, rfl⟩ := hd1.out)
    | (go_at_call 49; (with_reducible refine (COL.out _).mono ?_); rintro e w1 ⟨rfl, hd1⟩; obtain ⟨n1, rfl⟩ := hd1.out)
    | (go_at_call 50; (with_reducible refine (MAY.out _).mono ?_); rintro e w1 ⟨rfl, hb1⟩; have H1 := Lib.hid (join_below HB.out hb1 ⟨rfl, rfl, rfl, rfl⟩ (by simp)); have N1 := Lib.hid (loop_cells hb1 (v := _) ⟨rfl, rfl, rfl, rfl⟩ (blk_new w _)); clear hb1))
  go_ret
  refine ⟨?_, by repeat (first | exact HB.out | exact H1.out | apply pw_below_drewN)⟩
  simp only [hv0, Bool.not_true, Bool.not_false, Bool.true_and, Bool.false_and]
  try rfl
 ·skip
  cases v1
  rotate_left
  ·go_wp2_with (first
     | (go_at_call 48; (with_reducible refine (TWO.out _).mono ?_); rintro e w1 ⟨rfl, hd1⟩; obtain ⟨n1, rfl⟩ := hd1.out)
     | (go_at_call 49; (with_reducible refine (COL.out _).mono ?_); rintro e w1 ⟨rfl, hd1⟩; obtain ⟨n1, rfl⟩ := hd1.out)
     | (go_at_call 50; (with_reducible refine (MAY.out _).mono ?_); rintro e w1 ⟨rfl, hb1⟩; have H1 := Lib.hid (join_below HB.out hb1 ⟨rfl, rfl, rfl, rfl⟩ (by simp)); have N1 := Lib.hid (loop_cells hb1 (v := _) ⟨rfl, rfl, rfl, rfl⟩ (blk_new w _)); clear hb1))
   go_ret
   refine ⟨?_, by repeat (first | exact HB.out | exact H1.out | apply pw_below_drewN)⟩
   simp only [hv0, hv1, Bool.not_true, Bool.not_false, Bool.true_and, Bool.false_and]
   try rfl
  ·skip
   go_upto_region 5 with (first
     | (go_at_call 48; (with_reducible refine (TWO.out _).mono ?_); rintro e w1 ⟨rfl, hd1⟩; obtain ⟨n1, rfl⟩ := hd1.out)
     | (go_at_call 49; (with_reducible refine (COL.out _).mono ?_); rintro e w1 ⟨rfl, hd1⟩; obtain ⟨n1, rfl⟩ := hd1.out)
     | (go_at_call 50; (with_reducible refine (MAY.out _).mono ?_); rintro e w1 ⟨rfl, hb1⟩; have H1 := Lib.hid (join_below HB.out hb1 ⟨rfl, rfl, rfl, rfl⟩ (by simp)); have N1 := Lib.hid (loop_cells hb1 (v := _) ⟨rfl, rfl, rfl, rfl⟩ (blk_new w _)); clear hb1))
   cases v2
   rotate_left
   ·go_wp2_with (first
      | (go_at_call 48; (with_reducible refine (TWO.out _).mono ?_); rintro e w1 ⟨rfl, hd1⟩; obtain ⟨n1, rfl⟩ := hd1.out)
      | (go_at_call 49; (with_reducible refine (COL.out _).mono ?_); rintro e w1 ⟨rfl, hd1⟩; obtain ⟨n1, rfl⟩ := hd1.out)
      | (go_at_call 50; (with_reducible refine (MAY.out _).mono ?_); rintro e w1 ⟨rfl, hb1⟩; have H1 := Lib.hid (join_below HB.out hb1 ⟨rfl, rfl, rfl, rfl⟩ (by simp)); have N1 := Lib.hid (loop_cells hb1 (v := _) ⟨rfl, rfl, rfl, rfl⟩ (blk_new w _)); clear hb1))
    go_ret
    refine ⟨?_, by repeat (first | exact HB.out | exact H1.out | apply pw_below_drewN)⟩
    simp only [hv0, hv1, hv2, Bool.not_true, Bool.not_false, Bool.true_and, Bool.false_and]
    try rfl
   ·skip
    cases v3
    rotate_left
    ·go_wp2_with (first
       | (go_at_call 48; (with_reducible refine (TWO.out _).mono ?_); rintro e w1 ⟨rfl, hd1⟩; obtain ⟨n1, rfl⟩ := hd1.out)
       | (go_at_call 49; (with_reducible refine (COL.out _).mono ?_); rintro e w1 ⟨rfl, hd1⟩; obtain ⟨n1, rfl⟩ := hd1.out)
       | (go_at_call 50; (with_reducible refine (MAY.out _).mono ?_); rintro e w1 ⟨rfl, hb1⟩; have H1 := Lib.hid (join_below HB.out hb1 ⟨rfl, rfl, rfl, rfl⟩ (by simp)); have N1 := Lib.hid (loop_cells hb1 (v := _) ⟨rfl, rfl, rfl, rfl⟩ (blk_new w _)); clear hb1))
     go_ret
     refine ⟨?_, by repeat (first | exact HB.out | exact H1.out | apply pw_below_drewN)⟩
     simp only [hv0, hv1, hv2, hv3, Bool.not_true, Bool.not_false, Bool.true_and, Bool.false_and]
     try rfl
    ·skip
     go_upto_region 7 with (first
       | (go_at_call 48; (with_reducible refine (TWO.out _).mono ?_); rintro e w1 ⟨rfl, hd1⟩; obtain ⟨n1, rfl⟩ := hd1.out)
       | (go_at_call 49; (with_reducible refine (COL.out _).mono ?_); rintro e w1 ⟨rfl, hd1⟩; obtain ⟨n1, rfl⟩ := hd1.out)
       | (go_at_call 50; (with_reducible refine (MAY.out _).mono ?_); rintro e w1 ⟨rfl, hb1⟩; have H1 := Lib.hid (join_below HB.out hb1 ⟨rfl, rfl, rfl, rfl⟩ (by simp)); have N1 := Lib.hid (loop_cells hb1 (v := _) ⟨rfl, rfl, rfl, rfl⟩ (blk_new w _)); clear hb1))
     cases v4
     rotate_left
     ·go_wp2_with (first
        | (go_at_call 48; (with_reducible refine (TWO.out _).mono ?_); rintro e w1 ⟨rfl, hd1⟩; obtain ⟨n1, rfl⟩ := hd1.out)
        | (go_at_call 49; (with_reducible refine (COL.out _).mono ?_); rintro e w1 ⟨rfl, hd1⟩; obtain ⟨n1, rfl⟩ := hd1.out)
        | (go_at_call 50; (with_reducible refine (MAY.out _).mono ?_); rintro e w1 ⟨rfl, hb1⟩; have H1 := Lib.hid (join_below HB.out hb1 ⟨rfl, rfl, rfl, rfl⟩ (by simp)); have N1 := Lib.hid (loop_cells hb1 (v := _) ⟨rfl, rfl, rfl, rfl⟩ (blk_new w _)); clear hb1))
      go_ret
      refine ⟨?_, by repeat (first | exact HB.out | exact H1.out | apply pw_below_drewN)⟩
      simp only [hv0, hv1, hv2, hv3, hv4, Bool.not_true, Bool.not_false, Bool.true_and, Bool.false_and]
      try rfl
     ·skip
      cases v5
      rotate_left
      ·go_wp2_with (first
         | (go_at_call 48; (with_reducible refine (TWO.out _).mono ?_); rintro e w1 ⟨rfl, hd1⟩; obtain ⟨n1, rfl⟩ := hd1.out)
         | (go_at_call 49; (with_reducible refine (COL.out _).mono ?_); rintro e w1 ⟨rfl, hd1⟩; obtain ⟨n1, rfl⟩ := hd1.out)
         | (go_at_call 50; (with_reducible refine (MAY.out _).mono ?_); rintro e w1 ⟨rfl, hb1⟩; have H1 := Lib.hid (join_below HB.out hb1 ⟨rfl, rfl, rfl, rfl⟩ (by simp)); have N1 := Lib.hid (loop_cells hb1 (v := _) ⟨rfl, rfl, rfl, rfl⟩ (blk_new w _)); clear hb1))
       go_ret
       refine ⟨?_, by repeat (first | exact HB.out | exact H1.out | apply pw_below_drewN)⟩
       simp only [hv0, hv1, hv2, hv3, hv4, hv5, Bool.not_true, Bool.not_false, Bool.true_and, Bool.false_and]
       try rfl
      ·skip
       go_upto_region 9 with (first
         | (go_at_call 48; (with_reducible refine (TWO.out _).mono ?_); rintro e w1 ⟨rfl, hd1⟩; obtain ⟨n1, rfl⟩ := hd1.out)
         | (go_at_call 49; (with_reducible refine (COL.out _).mono ?_); rintro e w1 ⟨rfl, hd1⟩; obtain ⟨n1, rfl⟩ := hd1.out)
         | (go_at_call 50; (with_reducible refine (MAY.out _).mono ?_); rintro e w1 ⟨rfl, hb1⟩; have H1 := Lib.hid (join_below HB.out hb1 ⟨rfl, rfl, rfl, rfl⟩ (by simp)); have N1 := Lib.hid (loop_cells hb1 (v := _) ⟨rfl, rfl, rfl, rfl⟩ (blk_new w _)); clear hb1))
       cases v6
       rotate_left
       ·go_wp2_with (first
          | (go_at_call 48; (with_reducible refine (TWO.out _).mono ?_); rintro e w1 ⟨rfl, hd1⟩; obtain ⟨n1, rfl⟩ := hd1.out)
          | (go_at_call 49; (with_reducible refine (COL.out _).mono ?_); rintro e w1 ⟨rfl, hd1⟩; obtain ⟨n1, rfl⟩ := hd1.out)
          | (go_at_call 50; (with_reducible refine (MAY.out _).mono ?_); rintro e w1 ⟨rfl, hb1⟩; have H1 := Lib.hid (join_below HB.out hb1 ⟨rfl, rfl, rfl, rfl⟩ (by simp)); have N1 := Lib.hid (loop_cells hb1 (v := _) ⟨rfl, rfl, rfl, rfl⟩ (blk_new w _)); clear hb1))
        go_ret
        refine ⟨?_, by repeat (first | exact HB.out | exact H1.out | apply pw_below_drewN)⟩
        simp only [hv0, hv1, hv2, hv3, hv4, hv5, hv6, Bool.not_true, Bool.not_false, Bool.true_and, Bool.false_and]
        try rfl
       ·skip
        go_upto_region 13 with (first
          | (go_at_call 48; (with_reducible refine (TWO.out _).mono ?_); rintro e w1 ⟨rfl, hd1⟩; obtain ⟨n1, rfl⟩ := hd1.out)
          | (go_at_call 49; (with_reducible refine (COL.out _).mono ?_); rintro e w1 ⟨rfl, hd1⟩; obtain ⟨n1, rfl⟩ := hd1.out)
          | (go_at_call 50; (with_reducible refine (MAY.out _).mono ?_); rintro e w1 ⟨rfl, hb1⟩; have H1 := Lib.hid (join_below HB.out hb1 ⟨rfl, rfl, rfl, rfl⟩ (by simp)); have N1 := Lib.hid (loop_cells hb1 (v := _) ⟨rfl, rfl, rfl, rfl⟩ (blk_new w _)); clear hb1))
        cases v7
        rotate_left
        ·go_wp2_with (first
           | (go_at_call 48; (with_reducible refine (TWO.out _).mono ?_); rintro e w1 ⟨rfl, hd1⟩; obtain ⟨n1, rfl⟩ := hd1.out)
           | (go_at_call 49; (with_reducible refine (COL.out _).mono ?_); rintro e w1 ⟨rfl, hd1⟩; obtain ⟨n1, rfl⟩ := hd1.out)
           | (go_at_call 50; (with_reducible refine (MAY.out _).mono ?_); rintro e w1 ⟨rfl, hb1⟩; have H1 := Lib.hid (join_below HB.out hb1 ⟨rfl, rfl, rfl, rfl⟩ (by simp)); have N1 := Lib.hid (loop_cells hb1 (v := _) ⟨rfl, rfl, rfl, rfl⟩ (blk_new w _)); clear hb1))
         go_ret
         refine ⟨?_, by repeat (first | exact HB.out | exact H1.out | apply pw_below_drewN)⟩
         simp only [hv0, hv1, hv2, hv3, hv4, hv5, hv6, hv7, Bool.not_true, Bool.not_false, Bool.true_and, Bool.false_and]
         try rfl
        ·skip
         cases v8
         rotate_left
         ·go_wp2_with (first
            | (go_at_call 48; (with_reducible refine (TWO.out _).mono ?_); rintro e w1 ⟨rfl, hd1⟩; obtain ⟨n1, rfl⟩ := hd1.out)
            | (go_at_call 49; (with_reducible refine (COL.out _).mono ?_); rintro e w1 ⟨rfl, hd1⟩; obtain ⟨n1, rfl⟩ := hd1.out)
            | (go_at_call 50; (with_reducible refine (MAY.out _).mono ?_); rintro e w1 ⟨rfl, hb1⟩; have H1 := Lib.hid (join_below HB.out hb1 ⟨rfl, rfl, rfl, rfl⟩ (by simp)); have N1 := Lib.hid (loop_cells hb1 (v := _) ⟨rfl, rfl, rfl, rfl⟩ (blk_new w _)); clear hb1))
          go_ret
          refine ⟨?_, by repeat (first | exact HB.out | exact H1.out | apply pw_below_drewN)⟩
          simp only [hv0, hv1, hv2, hv3, hv4, hv5, hv6, hv7, hv8, Bool.not_true, Bool.not_false, Bool.true_and, Bool.false_and]
          try rfl
         ·skip
          go_upto_region 17 with (first
            | (go_at_call 48; (with_reducible refine (TWO.out _).mono ?_); rintro e w1 ⟨rfl, hd1⟩; obtain ⟨n1, rfl⟩ := hd1.out)
            | (go_at_call 49; (with_reducible refine (COL.out _).mono ?_); rintro e w1 ⟨rfl, hd1⟩; obtain ⟨n1, rfl⟩ := hd1.out)
            | (go_at_call 50; (with_reducible refine (MAY.out _).mono ?_); rintro e w1 ⟨rfl, hb1⟩; have H1 := Lib.hid (join_below HB.out hb1 ⟨rfl, rfl, rfl, rfl⟩ (by simp)); have N1 := Lib.hid (loop_cells hb1 (v := _) ⟨rfl, rfl, rfl, rfl⟩ (blk_new w _)); clear hb1))
          refine gen_world (fun W => Below w.heap.size w W ∧ W.heap[w.heap.size]? = some (.cells #[.int .i64 7, .int .i64 a0_1, .int .i64 a0_2, .slice A0_3 l0_3.length c0_3, .slice A0_4 l0_4.length c0_4, .slice A0_5 l0_5.length c0_5, .slice A0_6 l0_6.length c0_6, .int .i64 a0_7, .int .i64 a0_8, .int .i64 a0_9, .int .i64 a0_10, .int .i64 a0_11] 40 (0, 0))) ?_ ?_
          ·exact ⟨by repeat (first | exact HB.out | exact H1.out | apply pw_below_drewN), by first | exact N1.out | exact blk_new w _⟩
          intro W hW
          obtain ⟨hBW, hNW⟩ := hW
          have HW := Lib.hid hBW
          have LT := Lib.hid (Array.getElem?_eq_some_iff.1 hNW).1
          have z4 := Lib.hid ((blk_cell hNW 4).trans rfl : W.cell? ⟨w.heap.size, 4, none⟩ = some (.slice A0_4 l0_4.length c0_4))
          have z5 := Lib.hid ((blk_cell hNW 5).trans rfl : W.cell? ⟨w.heap.size, 5, none⟩ = some (.slice A0_5 l0_5.length c0_5))
          have z6 := Lib.hid ((blk_cell hNW 6).trans rfl : W.cell? ⟨w.heap.size, 6, none⟩ = some (.slice A0_6 l0_6.length c0_6))
          clear hBW hNW HB
          go_wp2
          go_loopw [5] (fun v5 wr => ∃ k : Nat, k ≤ l0_4.length ∧ v5 = .int .i64 (k : Int) ∧ Aside0 (∀ x ∈ l0_4.take k, EvP.nameB x = true) ∧ Aside0 (Below W.heap.size W wr)) (fun v5 wr => l0_4.length - (intOf v5).toNat)
          case atStart => exact ⟨0, by omega, rfl, ⟨by simp⟩, ⟨Below.refl _ _⟩⟩
          case round =>
           obtain ⟨k, hk, rfl, HN, HBr⟩ := hrel
           have hl4 : l0_4.length ≤ 1000 := HL.out.1
           have y4 := (HBr.out.cell (p := ⟨w.heap.size, 4, none⟩) LT.out).trans z4.out
           by_cases c : k < l0_4.length
           ·obtain ⟨X, hX⟩ : ∃ X, l0_4[k] = X := ⟨_, rfl⟩
            obtain ⟨ad, e1, hx0⟩ := ix_at_str (Kd.C_below (Kd.C_below HR4.out HW.out) HBr.out) k c
            rw [hX] at hx0
            cases e1
            have P := Lib.hid (rname_calls X)
            have HX := Lib.hid hX
            clear hX
            cases hpx : EvP.nameB X
            ·rw [hpx] at P
             have HPX := Lib.hid hpx
             clear hpx
             go_wp2_with ((with_reducible refine (P.out _).mono ?_); rintro e w1 ⟨rfl, hd1⟩; obtain ⟨n1, rfl⟩ := hd1.out)
             go_ret
             refine ⟨?_, pw_below_drewN (HW.out.trans (HBr.out.mono HW.out.size)) _⟩
             have hres : listsR l0_4 l0_5 l0_6 = false := by
              refine ka_not4 ?_ HPX.out
              rw [← HX.out]; exact List.getElem_mem c
             simp only [hres, hv0, hv1, hv2, hv3, hv4, hv5, hv6, hv7, hv8, Bool.not_true, Bool.not_false, Bool.true_and, Bool.false_and]
             try rfl
            ·rw [hpx] at P
             have HPX := Lib.hid hpx
             clear hpx
             go_wp2_with ((with_reducible refine (P.out _).mono ?_); rintro e w1 ⟨rfl, hd1⟩; obtain ⟨n1, rfl⟩ := hd1.out)
             go_roundw
             case rel =>
              refine ⟨k + 1, by omega, by go_num, ⟨fun x hx => ?_⟩, ⟨pw_below_drewN HBr.out _⟩⟩
              have hx' := (ix_mem_take l0_4 k c x).1 hx
              cases hx' with
              | inl h => exact HN.out x h
              | inr h => rw [h, HX.out]; exact HPX.out
             case measure => simp [intOf]; omega
           ·obtain rfl : k = l0_4.length := by omega
            have H4 := Lib.hid (ka_all (fun x hx => HN.out x (by rw [List.take_length]; exact hx)))
            clear HN c hk hl4
            have y5 := Lib.hid ((HBr.out.cell (p := ⟨w.heap.size, 5, none⟩) LT.out).trans z5.out)
            go_wp2
            go_loopw [6] (fun v6 wr2 => ∃ k : Nat, k ≤ l0_5.length ∧ v6 = .int .i64 (k : Int) ∧ Aside0 (∀ x ∈ l0_5.take k, rcolB x = true) ∧ Aside0 (Below W.heap.size W wr2)) (fun v6 wr2 => l0_5.length - (intOf v6).toNat)
            case atStart => exact ⟨0, by omega, rfl, ⟨by simp⟩, ⟨HBr.out⟩⟩
            case round =>
             obtain ⟨k, hk, rfl, HN, HBr2⟩ := hrel
             have hl5 : l0_5.length ≤ 1000 := HL.out.2.1
             have y5 := (HBr2.out.cell (p := ⟨w.heap.size, 5, none⟩) LT.out).trans z5.out
             by_cases c : k < l0_5.length
             ·obtain ⟨X, hX⟩ : ∃ X, l0_5[k] = X := ⟨_, rfl⟩
              obtain ⟨ad, e1, hx0⟩ := ix_at_int (Kd.C_below (Kd.C_below HR5.out HW.out) HBr2.out) k c
              rw [hX] at hx0
              cases e1
              have P := Lib.hid (rcol_calls X)
              have HX := Lib.hid hX
              clear hX
              cases hpx : rcolB X
              ·rw [hpx] at P
               have HPX := Lib.hid hpx
               clear hpx
               go_wp2_with ((with_reducible refine (P.out _).mono ?_); rintro e w1 ⟨rfl, hd1⟩; obtain ⟨n1, rfl⟩ := hd1.out)
               go_ret
               refine ⟨?_, pw_below_drewN (HW.out.trans (HBr2.out.mono HW.out.size)) _⟩
               have hres : listsR l0_4 l0_5 l0_6 = false := by
                refine ka_not5 ?_ HPX.out
                rw [← HX.out]; exact List.getElem_mem c
               simp only [hres, hv0, hv1, hv2, hv3, hv4, hv5, hv6, hv7, hv8, Bool.not_true, Bool.not_false, Bool.true_and, Bool.false_and]
               try rfl
              ·rw [hpx] at P
               have HPX := Lib.hid hpx
               clear hpx
               go_wp2_with ((with_reducible refine (P.out _).mono ?_); rintro e w1 ⟨rfl, hd1⟩; obtain ⟨n1, rfl⟩ := hd1.out)
               go_roundw
               case rel =>
                refine ⟨k + 1, by omega, by go_num, ⟨fun x hx => ?_⟩, ⟨pw_below_drewN HBr2.out _⟩⟩
                have hx' := (ix_mem_take l0_5 k c x).1 hx
                cases hx' with
                | inl h => exact HN.out x h
                | inr h => rw [h, HX.out]; exact HPX.out
               case measure => simp [intOf]; omega
             ·obtain rfl : k = l0_5.length := by omega
              have H5 := Lib.hid (ka_all (fun x hx => HN.out x (by rw [List.take_length]; exact hx)))
              clear HN c hk hl5
              have y6 := Lib.hid ((HBr2.out.cell (p := ⟨w.heap.size, 6, none⟩) LT.out).trans z6.out)
              go_wp2
              go_loopw [7] (fun v7 wr3 => ∃ k : Nat, k ≤ l0_6.length ∧ v7 = .int .i64 (k : Int) ∧ Aside0 (∀ x ∈ l0_6.take k, raggB x = true) ∧ Aside0 (Below W.heap.size W wr3)) (fun v7 wr3 => l0_6.length - (intOf v7).toNat)
              case atStart => exact ⟨0, by omega, rfl, ⟨by simp⟩, ⟨HBr2.out⟩⟩
              case round =>
               obtain ⟨k, hk, rfl, HN, HBr3⟩ := hrel
               have hl6 : l0_6.length ≤ 1000 := HL.out.2.2
               have y6 := (HBr3.out.cell (p := ⟨w.heap.size, 6, none⟩) LT.out).trans z6.out
               by_cases c : k < l0_6.length
               ·obtain ⟨X, hX⟩ : ∃ X, l0_6[k] = X := ⟨_, rfl⟩
                obtain ⟨ad, e1, hx0, hx1, hx2⟩ := at_T43 (Kd.C_below (Kd.C_below HR6.out HW.out) HBr3.out) (k : Int) (by omega) (by omega)
                have hrd : rd_T43 l0_6 (k : Int) = X := by
                 unfold rd_T43
                 rw [Int.toNat_natCast, List.getD_eq_getElem?_getD, List.getElem?_eq_getElem c]
                 exact hX
                rw [Int.toNat_natCast, hrd] at hx0 hx1 hx2
                clear hrd
                cases e1
                have P := Lib.hid (rname_calls X.f2)
                have C := Lib.hid (rcol_calls X.f1)
                have HX := Lib.hid hX
                have HA := Lib.hid (show raggB X = !(decide (X.f0 < 1) || decide (X.f0 > 7) || !rcolB X.f1 || !EvP.nameB X.f2) from rfl)
                have hu3 := Try.underlying43
                clear hX
                generalize EvP.nameB X.f2 = nm at *
                generalize rcolB X.f1 = cl at *
                obtain ⟨p0, hp0⟩ : ∃ v, decide (X.f0 < 1) = v := ⟨_, rfl⟩
                obtain ⟨p1, hp1⟩ : ∃ v, decide (X.f0 > 7) = v := ⟨_, rfl⟩
                rw [hp0, hp1] at HA
                go_upto_region 31 with fail
                cases p0
                ·cases p1
                 ·cases cl
                  ·go_wp2_with (first
                    | (go_at_call 49; (with_reducible refine (C.out _).mono ?_); rintro e w1 ⟨rfl, hd1⟩; obtain ⟨n1, rfl⟩ := hd1.out)
                    | (go_at_call 51; (with_reducible refine (P.out _).mono ?_); rintro e w1 ⟨rfl, hd1⟩; obtain ⟨n2, rfl⟩ := hd1.out))
                   go_ret
                   refine ⟨?_, by repeat (first | exact (HW.out.trans (HBr3.out.mono HW.out.size)) | apply pw_below_drewN | apply below_alloc)⟩
                   have hres : listsR l0_4 l0_5 l0_6 = false := by
                    refine ka_not6 (x := X) ?_ (by rw [HA.out]; simp)
                    rw [← HX.out]; exact List.getElem_mem c
                   simp only [hres, hv0, hv1, hv2, hv3, hv4, hv5, hv6, hv7, hv8, Bool.not_true, Bool.not_false, Bool.true_and, Bool.false_and]
                   try rfl
                  ·cases nm
                   ·go_wp2_with (first
                     | (go_at_call 49; (with_reducible refine (C.out _).mono ?_); rintro e w1 ⟨rfl, hd1⟩; obtain ⟨n1, rfl⟩ := hd1.out)
                     | (go_at_call 51; (with_reducible refine (P.out _).mono ?_); rintro e w1 ⟨rfl, hd1⟩; obtain ⟨n2, rfl⟩ := hd1.out))
                    go_ret
                    refine ⟨?_, by repeat (first | exact (HW.out.trans (HBr3.out.mono HW.out.size)) | apply pw_below_drewN | apply below_alloc)⟩
                    have hres : listsR l0_4 l0_5 l0_6 = false := by
                     refine ka_not6 (x := X) ?_ (by rw [HA.out]; simp)
                     rw [← HX.out]; exact List.getElem_mem c
                    simp only [hres, hv0, hv1, hv2, hv3, hv4, hv5, hv6, hv7, hv8, Bool.not_true, Bool.not_false, Bool.true_and, Bool.false_and]
                    try rfl
                   ·go_wp2_with (first
                     | (go_at_call 49; (with_reducible refine (C.out _).mono ?_); rintro e w1 ⟨rfl, hd1⟩; obtain ⟨n1, rfl⟩ := hd1.out)
                     | (go_at_call 51; (with_reducible refine (P.out _).mono ?_); rintro e w1 ⟨rfl, hd1⟩; obtain ⟨n2, rfl⟩ := hd1.out))
                    go_roundw
                    case rel =>
                     refine ⟨k + 1, by omega, by go_num, ⟨fun x hx => ?_⟩, ⟨by repeat (first | exact HBr3.out | apply pw_below_drewN | apply below_alloc)⟩⟩
                     have hx' := (ix_mem_take l0_6 k c x).1 hx
                     cases hx' with
                     | inl h => exact HN.out x h
                     | inr h => rw [h, HX.out, HA.out]; rfl
                    case measure => simp [intOf]; omega
                 ·go_wp2_with (first
                   | (go_at_call 49; (with_reducible refine (C.out _).mono ?_); rintro e w1 ⟨rfl, hd1⟩; obtain ⟨n1, rfl⟩ := hd1.out)
                   | (go_at_call 51; (with_reducible refine (P.out _).mono ?_); rintro e w1 ⟨rfl, hd1⟩; obtain ⟨n2, rfl⟩ := hd1.out))
                  go_ret
                  refine ⟨?_, by repeat (first | exact (HW.out.trans (HBr3.out.mono HW.out.size)) | apply pw_below_drewN | apply below_alloc)⟩
                  have hres : listsR l0_4 l0_5 l0_6 = false := by
                   refine ka_not6 (x := X) ?_ (by rw [HA.out]; simp)
                   rw [← HX.out]; exact List.getElem_mem c
                  simp only [hres, hv0, hv1, hv2, hv3, hv4, hv5, hv6, hv7, hv8, Bool.not_true, Bool.not_false, Bool.true_and, Bool.false_and]
                  try rfl
                ·go_wp2_with (first
                  | (go_at_call 49; (with_reducible refine (C.out _).mono ?_); rintro e w1 ⟨rfl, hd1⟩; obtain ⟨n1, rfl⟩ := hd1.out)
                  | (go_at_call 51; (with_reducible refine (P.out _).mono ?_); rintro e w1 ⟨rfl, hd1⟩; obtain ⟨n2, rfl⟩ := hd1.out))
                 go_ret
                 refine ⟨?_, by repeat (first | exact (HW.out.trans (HBr3.out.mono HW.out.size)) | apply pw_below_drewN | apply below_alloc)⟩
                 have hres : listsR l0_4 l0_5 l0_6 = false := by
                  refine ka_not6 (x := X) ?_ (by rw [HA.out]; simp)
                  rw [← HX.out]; exact List.getElem_mem c
                 simp only [hres, hv0, hv1, hv2, hv3, hv4, hv5, hv6, hv7, hv8, Bool.not_true, Bool.not_false, Bool.true_and, Bool.false_and]
                 try rfl
               ·obtain rfl : k = l0_6.length := by omega
                have H6 := Lib.hid (ka_all (fun x hx => HN.out x (by rw [List.take_length]; exact hx)))
                clear HN c hk hl6
                go_wp2
                go_ret
                refine ⟨?_, HW.out.trans (HBr3.out.mono HW.out.size)⟩
                have hres : listsR l0_4 l0_5 l0_6 = true := ka_yes H4.out H5.out H6.out
                simp only [hres, hv0, hv1, hv2, hv3, hv4, hv5, hv6, hv7, hv8, Bool.not_true, Bool.not_false, Bool.true_and, Bool.false_and]
                try rfl
end Go.Proofs.Ytpidiibhgfjemaa.PLh
end
section
namespace Go.Proofs.Ytpidiibhgfjemaa.PLh
open Go.Proofs.Ytpidiibhgfjemaa.PLg
open Go.RowKit Go.Proofs.YtpidiibhgfjemaaW.PrintWords Go.Proofs.YtpidiibhgfjemaaW.PrintLast Go.Proofs.YtpidiibhgfjemaaW.PrintMore
set_option linter.unusedVariables false
set_option linter.unusedSimpArgs false
attribute [local go_sem high] eqA34
set_option maxHeartbeats 4000000 in
set_option maxRecDepth 100000 in
theorem fld8_calls (a0_1 : Int) (a0_2 : Int) (A0_3 : Option Addr) (c0_3 : Nat) (l0_3 : List (List (S79))) (A0_4 : Option Addr) (c0_4 : Nat) (l0_4 : List ByteArray) (A0_5 : Option Addr) (c0_5 : Nat) (l0_5 : List Int) (A0_6 : Option Addr) (c0_6 : Nat) (l0_6 : List (S43)) (a0_7 : Int) (a0_8 : Int) (a0_9 : Int) (a0_10 : Int) (a0_11 : Int) (w : World) (hr0_3 : Kd.C (Kd.slice 79 k79) w A0_3 l0_3.length l0_3) (hc0_3 : l0_3.length ≤ c0_3) (hr0_4 : Kd.C Kd.string w A0_4 l0_4.length l0_4) (hc0_4 : l0_4.length ≤ c0_4) (hr0_5 : Kd.C (Kd.int .i64) w A0_5 l0_5.length l0_5) (hc0_5 : l0_5.length ≤ c0_5) (hr0_6 : Kd.C k43 w A0_6 l0_6.length l0_6) (hc0_6 : l0_6.length ≤ c0_6) (hl4 : l0_4.length ≤ 1000) (hl5 : l0_5.length ≤ 1000) (hl6 : l0_6.length ≤ 1000) :
  Calls Try.prog 31 #[.agg #[.int .i64 8, .int .i64 a0_1, .int .i64 a0_2, .slice A0_3 l0_3.length c0_3, .slice A0_4 l0_4.length c0_4, .slice A0_5 l0_5.length c0_5, .slice A0_6 l0_6.length c0_6, .int .i64 a0_7, .int .i64 a0_8, .int .i64 a0_9, .int .i64 a0_10, .int .i64 a0_11]] w fun e w' => e = .returned (.bool (!(a0_2 != 0) && (!(a0_11 != 0) && (!(a0_10 != 0) && (!(decide (0 < l0_4.length)) && (!(decide (0 < l0_3.length)) && (!(!rmayB a0_7 a0_8 a0_9) && (listsR l0_4 l0_5 l0_6)))))))) ∧ Below w.heap.size w w' := by
 have hu := Try.underlying40
 have hu2 := Try.underlying34
 have TWO := Lib.hid (fun w => rescindref36_Two.calls 8 _ w rfl)
 have COL := Lib.hid (fun w => rcol_calls a0_11 w)
 have MAY := Lib.hid (fun w => rmay_calls a0_7 a0_8 a0_9 w)
 have HR4 := Aside0.mk hr0_4
 have HR5 := Aside0.mk hr0_5
 have HR6 := Aside0.mk hr0_6
 have HL := Lib.hid (And.intro hl4 (And.intro hl5 hl6))
 clear hr0_3 hc0_3 hr0_4 hc0_4 hr0_5 hc0_5 hr0_6 hc0_6 hl4 hl5 hl6
 have HB := Lib.hid (Below.alloc (Below.refl w.heap.size w) (Nat.le_refl _) (.cells #[.int .i64 8, .int .i64 a0_1, .int .i64 a0_2, .slice A0_3 l0_3.length c0_3, .slice A0_4 l0_4.length c0_4, .slice A0_5 l0_5.length c0_5, .slice A0_6 l0_6.length c0_6, .int .i64 a0_7, .int .i64 a0_8, .int .i64 a0_9, .int .i64 a0_10, .int .i64 a0_11] 40 (0, 0)))
 generalize hrc : rcolB a0_11 = rc at *
 generalize hrm : rmayB a0_7 a0_8 a0_9 = rm at *
 clear hrc hrm
 obtain ⟨v0, hv0⟩ : ∃ v, (a0_2 != 0) = v := ⟨_, rfl⟩
 obtain ⟨v1, hv1⟩ : ∃ v, (a0_11 != 0) = v := ⟨_, rfl⟩
 obtain ⟨v2, hv2⟩ : ∃ v, (a0_10 != 0) = v := ⟨_, rfl⟩
 obtain ⟨v3, hv3⟩ : ∃ v, decide (0 < l0_4.length) = v := ⟨_, rfl⟩
 have hv3a : decide ((l0_4.length : Int) > 0) = v3 := by rw [← hv3]; first | rfl | simp
 obtain ⟨v4, hv4⟩ : ∃ v, decide (0 < l0_3.length) = v := ⟨_, rfl⟩
 have hv4a : decide ((l0_3.length : Int) > 0) = v4 := by rw [← hv4]; first | rfl | simp
 go_enter Try.func31, Try.ntmps31
 go_upto_region 3 with (first
   | (go_at_call 48; (with_reducible refine (TWO.out _).mono ?_); rintro e w1 ⟨rfl, hd1⟩; obtain ⟨n1, rfl⟩ := hd1.out)
   | (go_at_call 49; (with_reducible refine (COL.out _).mono ?_); rintro e w1 ⟨rfl, hd1⟩; obtain ⟨n1, rfl⟩ := hd1.out)
   | (go_at_call 50; (with_reducible refine (MAY.out _).mono ?_); rintro e w1 ⟨rfl, hb1⟩; have H1 := Lib.hid (join_below HB.out hb1 ⟨rfl, rfl, rfl, rfl⟩ (by simp)); have N1 := Lib.hid (loop_cells hb1 (v := _) ⟨rfl, rfl, rfl, rfl⟩ (blk_new w _)); clear hb1))
 cases v0
 rotate_left
 ·go_wp2_with (first
    | (go_at_call 48; (with_reducible refine (TWO.out _).mono ?_); rintro e w1 ⟨rfl, hd1⟩; obtain ⟨n1, rfl⟩ := hd1.out)
    | (go_at_call 49; (with_reducible refine (COL.out _).mono ?_); rintro e w1 ⟨rfl, hd1⟩; obtain ⟨n1, rfl⟩ := hd1.out)
    | (go_at_call 50; (with_reducible refine (MAY.out _).mono ?_); rintro e w1 ⟨rfl, hb1⟩; have H1 := Lib.hid (join_below HB.out hb1 ⟨rfl, rfl, rfl, rfl⟩ (by simp)); have N1 := Lib.hid (loop_cells hb1 (v := _) ⟨rfl, rfl, rfl, rfl⟩ (blk_new w _)); clear hb1))
  go_ret
  refine ⟨?_, by repeat (first | exact HB.out | exact H1.out | apply pw_below_drewN)⟩
  simp only [hv0, Bool.not_true, Bool.not_false, Bool.true_and, Bool.false_and]
  try rfl
 ·skip
  cases v1
  rotate_left
  ·go_wp2_with (first
     | (go_at_call 48; (with_reducible refine (TWO.out _).mono ?_); rintro e w1 ⟨rfl, hd1⟩; obtain ⟨n1, rfl⟩ := hd1.out)
     | (go_at_call 49; (with_reducible refine (COL.out _).mono ?_); rintro e w1 ⟨rfl, hd1⟩; obtain ⟨n1, rfl⟩ := hd1.out)
     | (go_at_call 50; (with_reducible refine (MAY.out _).mono ?_); rintro e w1 ⟨rfl, hb1⟩; have H1 := Lib.hid (join_below HB.out hb1 ⟨rfl, rfl, rfl, rfl⟩ (by simp)); have N1 := Lib.hid (loop_cells hb1 (v := _) ⟨rfl, rfl, rfl, rfl⟩ (blk_new w _)); clear hb1))
   go_ret
   refine ⟨?_, by repeat (first | exact HB.out | exact H1.out | apply pw_below_drewN)⟩
   simp only [hv0, hv1, Bool.not_true, Bool.not_false, Bool.true_and, Bool.false_and]
   try rfl
  ·skip
   cases v2
   rotate_left
   ·go_wp2_with (first
      | (go_at_call 48; (with_reducible refine (TWO.out _).mono ?_); rintro e w1 ⟨rfl, hd1⟩; obtain ⟨n1, rfl⟩ := hd1.out)
      | (go_at_call 49; (with_reducible refine (COL.out _).mono ?_); rintro e w1 ⟨rfl, hd1⟩; obtain ⟨n1, rfl⟩ := hd1.out)
      | (go_at_call 50; (with_reducible refine (MAY.out _).mono ?_); rintro e w1 ⟨rfl, hb1⟩; have H1 := Lib.hid (join_below HB.out hb1 ⟨rfl, rfl, rfl, rfl⟩ (by simp)); have N1 := Lib.hid (loop_cells hb1 (v := _) ⟨rfl, rfl, rfl, rfl⟩ (blk_new w _)); clear hb1))
    go_ret
    refine ⟨?_, by repeat (first | exact HB.out | exact H1.out | apply pw_below_drewN)⟩
    simp only [hv0, hv1, hv2, Bool.not_true, Bool.not_false, Bool.true_and, Bool.false_and]
    try rfl
   ·skip
    go_upto_region 5 with (first
      | (go_at_call 48; (with_reducible refine (TWO.out _).mono ?_); rintro e w1 ⟨rfl, hd1⟩; obtain ⟨n1, rfl⟩ := hd1.out)
      | (go_at_call 49; (with_reducible refine (COL.out _).mono ?_); rintro e w1 ⟨rfl, hd1⟩; obtain ⟨n1, rfl⟩ := hd1.out)
      | (go_at_call 50; (with_reducible refine (MAY.out _).mono ?_); rintro e w1 ⟨rfl, hb1⟩; have H1 := Lib.hid (join_below HB.out hb1 ⟨rfl, rfl, rfl, rfl⟩ (by simp)); have N1 := Lib.hid (loop_cells hb1 (v := _) ⟨rfl, rfl, rfl, rfl⟩ (blk_new w _)); clear hb1))
    cases v3
    rotate_left
    ·go_wp2_with (first
       | (go_at_call 48; (with_reducible refine (TWO.out _).mono ?_); rintro e w1 ⟨rfl, hd1⟩; obtain ⟨n1, rfl⟩ := hd1.out)
       | (go_at_call 49; (with_reducible refine (COL.out _).mono ?_); rintro e w1 ⟨rfl, hd1⟩; obtain ⟨n1, rfl⟩ := hd1.out)
       | (go_at_call 50; (with_reducible refine (MAY.out _).mono ?_); rintro e w1 ⟨rfl, hb1⟩; have H1 := Lib.hid (join_below HB.out hb1 ⟨rfl, rfl, rfl, rfl⟩ (by simp)); have N1 := Lib.hid (loop_cells hb1 (v := _) ⟨rfl, rfl, rfl, rfl⟩ (blk_new w _)); clear hb1))
     go_ret
     refine ⟨?_, by repeat (first | exact HB.out | exact H1.out | apply pw_below_drewN)⟩
     simp only [hv0, hv1, hv2, hv3, Bool.not_true, Bool.not_false, Bool.true_and, Bool.false_and]
     try rfl
    ·skip
     go_upto_region 9 with (first
       | (go_at_call 48; (with_reducible refine (TWO.out _).mono ?_); rintro e w1 ⟨rfl, hd1⟩; obtain ⟨n1, rfl⟩ := hd1.out)
       | (go_at_call 49; (with_reducible refine (COL.out _).mono ?_); rintro e w1 ⟨rfl, hd1⟩; obtain ⟨n1, rfl⟩ := hd1.out)
       | (go_at_call 50; (with_reducible refine (MAY.out _).mono ?_); rintro e w1 ⟨rfl, hb1⟩; have H1 := Lib.hid (join_below HB.out hb1 ⟨rfl, rfl, rfl, rfl⟩ (by simp)); have N1 := Lib.hid (loop_cells hb1 (v := _) ⟨rfl, rfl, rfl, rfl⟩ (blk_new w _)); clear hb1))
     cases v4
     rotate_left
     ·go_wp2_with (first
        | (go_at_call 48; (with_reducible refine (TWO.out _).mono ?_); rintro e w1 ⟨rfl, hd1⟩; obtain ⟨n1, rfl⟩ := hd1.out)
        | (go_at_call 49; (with_reducible refine (COL.out _).mono ?_); rintro e w1 ⟨rfl, hd1⟩; obtain ⟨n1, rfl⟩ := hd1.out)
        | (go_at_call 50; (with_reducible refine (MAY.out _).mono ?_); rintro e w1 ⟨rfl, hb1⟩; have H1 := Lib.hid (join_below HB.out hb1 ⟨rfl, rfl, rfl, rfl⟩ (by simp)); have N1 := Lib.hid (loop_cells hb1 (v := _) ⟨rfl, rfl, rfl, rfl⟩ (blk_new w _)); clear hb1))
      go_ret
      refine ⟨?_, by repeat (first | exact HB.out | exact H1.out | apply pw_below_drewN)⟩
      simp only [hv0, hv1, hv2, hv3, hv4, Bool.not_true, Bool.not_false, Bool.true_and, Bool.false_and]
      try rfl
     ·skip
      go_upto_region 15 with (first
        | (go_at_call 48; (with_reducible refine (TWO.out _).mono ?_); rintro e w1 ⟨rfl, hd1⟩; obtain ⟨n1, rfl⟩ := hd1.out)
        | (go_at_call 49; (with_reducible refine (COL.out _).mono ?_); rintro e w1 ⟨rfl, hd1⟩; obtain ⟨n1, rfl⟩ := hd1.out)
        | (go_at_call 50; (with_reducible refine (MAY.out _).mono ?_); rintro e w1 ⟨rfl, hb1⟩; have H1 := Lib.hid (join_below HB.out hb1 ⟨rfl, rfl, rfl, rfl⟩ (by simp)); have N1 := Lib.hid (loop_cells hb1 (v := _) ⟨rfl, rfl, rfl, rfl⟩ (blk_new w _)); clear hb1))
      cases rm
      ·go_wp2_with (first
         | (go_at_call 48; (with_reducible refine (TWO.out _).mono ?_); rintro e w1 ⟨rfl, hd1⟩; obtain ⟨n1, rfl⟩ := hd1.out)
         | (go_at_call 49; (with_reducible refine (COL.out _).mono ?_); rintro e w1 ⟨rfl, hd1⟩; obtain ⟨n1, rfl⟩ := hd1.out)
         | (go_at_call 50; (with_reducible refine (MAY.out _).mono ?_); rintro e w1 ⟨rfl, hb1⟩; have H1 := Lib.hid (join_below HB.out hb1 ⟨rfl, rfl, rfl, rfl⟩ (by simp)); have N1 := Lib.hid (loop_cells hb1 (v := _) ⟨rfl, rfl, rfl, rfl⟩ (blk_new w _)); clear hb1))
       go_ret
       refine ⟨?_, by repeat (first | exact HB.out | exact H1.out | apply pw_below_drewN)⟩
       simp only [hv0, hv1, hv2, hv3, hv4, Bool.not_true, Bool.not_false, Bool.true_and, Bool.false_and]
       try rfl
      ·skip
       go_upto_region 17 with (first
         | (go_at_call 48; (with_reducible refine (TWO.out _).mono ?_); rintro e w1 ⟨rfl, hd1⟩; obtain ⟨n1, rfl⟩ := hd1.out)
         | (go_at_call 49; (with_reducible refine (COL.out _).mono ?_); rintro e w1 ⟨rfl, hd1⟩; obtain ⟨n1, rfl⟩ := hd1.out)
         | (go_at_call 50; (with_reducible refine (MAY.out _).mono ?_); rintro e w1 ⟨rfl, hb1⟩; have H1 := Lib.hid (join_below HB.out hb1 ⟨rfl, rfl, rfl, rfl⟩ (by simp)); have N1 := Lib.hid (loop_cells hb1 (v := _) ⟨rfl, rfl, rfl, rfl⟩ (blk_new w _)); clear hb1))
       refine gen_world (fun W => Below w.heap.size w W ∧ W.heap[w.heap.size]? = some (.cells #[.int .i64 8, .int .i64 a0_1, .int .i64 a0_2, .slice A0_3 l0_3.length c0_3, .slice A0_4 l0_4.length c0_4, .slice A0_5 l0_5.length c0_5, .slice A0_6 l0_6.length c0_6, .int .i64 a0_7, .int .i64 a0_8, .int .i64 a0_9, .int .i64 a0_10, .int .i64 a0_11] 40 (0, 0))) ?_ ?_
       ·exact ⟨by repeat (first | exact HB.out | exact H1.out | apply pw_below_drewN), by first | exact N1.out | exact blk_new w _⟩
       intro W hW
       obtain ⟨hBW, hNW⟩ := hW
       have HW := Lib.hid hBW
       have LT := Lib.hid (Array.getElem?_eq_some_iff.1 hNW).1
       have z4 := Lib.hid ((blk_cell hNW 4).trans rfl : W.cell? ⟨w.heap.size, 4, none⟩ = some (.slice A0_4 l0_4.length c0_4))
       have z5 := Lib.hid ((blk_cell hNW 5).trans rfl : W.cell? ⟨w.heap.size, 5, none⟩ = some (.slice A0_5 l0_5.length c0_5))
       have z6 := Lib.hid ((blk_cell hNW 6).trans rfl : W.cell? ⟨w.heap.size, 6, none⟩ = some (.slice A0_6 l0_6.length c0_6))
       clear hBW hNW HB
       go_wp2
       go_loopw [5] (fun v5 wr => ∃ k : Nat, k ≤ l0_4.length ∧ v5 = .int .i64 (k : Int) ∧ Aside0 (∀ x ∈ l0_4.take k, EvP.nameB x = true) ∧ Aside0 (Below W.heap.size W wr)) (fun v5 wr => l0_4.length - (intOf v5).toNat)
       case atStart => exact ⟨0, by omega, rfl, ⟨by simp⟩, ⟨Below.refl _ _⟩⟩
       case round =>
        obtain ⟨k, hk, rfl, HN, HBr⟩ := hrel
        have hl4 : l0_4.length ≤ 1000 := HL.out.1
        have y4 := (HBr.out.cell (p := ⟨w.heap.size, 4, none⟩) LT.out).trans z4.out
        by_cases c : k < l0_4.length
        ·obtain ⟨X, hX⟩ : ∃ X, l0_4[k] = X := ⟨_, rfl⟩
         obtain ⟨ad, e1, hx0⟩ := ix_at_str (Kd.C_below (Kd.C_below HR4.out HW.out) HBr.out) k c
         rw [hX] at hx0
         cases e1
         have P := Lib.hid (rname_calls X)
         have HX := Lib.hid hX
         clear hX
         cases hpx : EvP.nameB X
         ·rw [hpx] at P
          have HPX := Lib.hid hpx
          clear hpx
          go_wp2_with ((with_reducible refine (P.out _).mono ?_); rintro e w1 ⟨rfl, hd1⟩; obtain ⟨n1, rfl⟩ := hd1.out)
          go_ret
          refine ⟨?_, pw_below_drewN (HW.out.trans (HBr.out.mono HW.out.size)) _⟩
          have hres : listsR l0_4 l0_5 l0_6 = false := by
           refine ka_not4 ?_ HPX.out
           rw [← HX.out]; exact List.getElem_mem c
          simp only [hres, hv0, hv1, hv2, hv3, hv4, Bool.not_true, Bool.not_false, Bool.true_and, Bool.false_and]
          try rfl
         ·rw [hpx] at P
          have HPX := Lib.hid hpx
          clear hpx
          go_wp2_with ((with_reducible refine (P.out _).mono ?_); rintro e w1 ⟨rfl, hd1⟩; obtain ⟨n1, rfl⟩ := hd1.out)
          go_roundw
          case rel =>
           refine ⟨k + 1, by omega, by go_num, ⟨fun x hx => ?_⟩, ⟨pw_below_drewN HBr.out _⟩⟩
           have hx' := (ix_mem_take l0_4 k c x).1 hx
           cases hx' with
           | inl h => exact HN.out x h
           | inr h => rw [h, HX.out]; exact HPX.out
          case measure => simp [intOf]; omega
        ·obtain rfl : k = l0_4.length := by omega
         have H4 := Lib.hid (ka_all (fun x hx => HN.out x (by rw [List.take_length]; exact hx)))
         clear HN c hk hl4
         have y5 := Lib.hid ((HBr.out.cell (p := ⟨w.heap.size, 5, none⟩) LT.out).trans z5.out)
         go_wp2
         go_loopw [6] (fun v6 wr2 => ∃ k : Nat, k ≤ l0_5.length ∧ v6 = .int .i64 (k : Int) ∧ Aside0 (∀ x ∈ l0_5.take k, rcolB x = true) ∧ Aside0 (Below W.heap.size W wr2)) (fun v6 wr2 => l0_5.length - (intOf v6).toNat)
         case atStart => exact ⟨0, by omega, rfl, ⟨by simp⟩, ⟨HBr.out⟩⟩
         case round =>
          obtain ⟨k, hk, rfl, HN, HBr2⟩ := hrel
          have hl5 : l0_5.length ≤ 1000 := HL.out.2.1
          have y5 := (HBr2.out.cell (p := ⟨w.heap.size, 5, none⟩) LT.out).trans z5.out
          by_cases c : k < l0_5.length
          ·obtain ⟨X, hX⟩ : ∃ X, l0_5[k] = X := ⟨_, rfl⟩
           obtain ⟨ad, e1, hx0⟩ := ix_at_int (Kd.C_below (Kd.C_below HR5.out HW.out) HBr2.out) k c
           rw [hX] at hx0
           cases e1
           have P := Lib.hid (rcol_calls X)
           have HX := Lib.hid hX
           clear hX
           cases hpx : rcolB X
           ·rw [hpx] at P
            have HPX := Lib.hid hpx
            clear hpx
            go_wp2_with ((with_reducible refine (P.out _).mono ?_); rintro e w1 ⟨rfl, hd1⟩; obtain ⟨n1, rfl⟩ := hd1.out)
            go_ret
            refine ⟨?_, pw_below_drewN (HW.out.trans (HBr2.out.mono HW.out.size)) _⟩
            have hres : listsR l0_4 l0_5 l0_6 = false := by
             refine ka_not5 ?_ HPX.out
             rw [← HX.out]; exact List.getElem_mem c
            simp only [hres, hv0, hv1, hv2, hv3, hv4, Bool.not_true, Bool.not_false, Bool.true_and, Bool.false_and]
            try rfl
           ·rw [hpx] at P
            have HPX := Lib.hid hpx
            clear hpx
            go_wp2_with ((with_reducible refine (P.out _).mono ?_); rintro e w1 ⟨rfl, hd1⟩; obtain ⟨n1, rfl⟩ := hd1.out)
            go_roundw
            case rel =>
             refine ⟨k + 1, by omega, by go_num, ⟨fun x hx => ?_⟩, ⟨pw_below_drewN HBr2.out _⟩⟩
             have hx' := (ix_mem_take l0_5 k c x).1 hx
             cases hx' with
             | inl h => exact HN.out x h
             | inr h => rw [h, HX.out]; exact HPX.out
            case measure => simp [intOf]; omega
          ·obtain rfl : k = l0_5.length := by omega
           have H5 := Lib.hid (ka_all (fun x hx => HN.out x (by rw [List.take_length]; exact hx)))
           clear HN c hk hl5
           have y6 := Lib.hid ((HBr2.out.cell (p := ⟨w.heap.size, 6, none⟩) LT.out).trans z6.out)
           go_wp2
           go_loopw [7] (fun v7 wr3 => ∃ k : Nat, k ≤ l0_6.length ∧ v7 = .int .i64 (k : Int) ∧ Aside0 (∀ x ∈ l0_6.take k, raggB x = true) ∧ Aside0 (Below W.heap.size W wr3)) (fun v7 wr3 => l0_6.length - (intOf v7).toNat)
           case atStart => exact ⟨0, by omega, rfl, ⟨by simp⟩, ⟨HBr2.out⟩⟩
           case round =>
            obtain ⟨k, hk, rfl, HN, HBr3⟩ := hrel
            have hl6 : l0_6.length ≤ 1000 := HL.out.2.2
            have y6 := (HBr3.out.cell (p := ⟨w.heap.size, 6, none⟩) LT.out).trans z6.out
            by_cases c : k < l0_6.length
            ·obtain ⟨X, hX⟩ : ∃ X, l0_6[k] = X := ⟨_, rfl⟩
             obtain ⟨ad, e1, hx0, hx1, hx2⟩ := at_T43 (Kd.C_below (Kd.C_below HR6.out HW.out) HBr3.out) (k : Int) (by omega) (by omega)
             have hrd : rd_T43 l0_6 (k : Int) = X := by
              unfold rd_T43
              rw [Int.toNat_natCast, List.getD_eq_getElem?_getD, List.getElem?_eq_getElem c]
              exact hX
             rw [Int.toNat_natCast, hrd] at hx0 hx1 hx2
             clear hrd
             cases e1
             have P := Lib.hid (rname_calls X.f2)
             have C := Lib.hid (rcol_calls X.f1)
             have HX := Lib.hid hX
             have HA := Lib.hid (show raggB X = !(decide (X.f0 < 1) || decide (X.f0 > 7) || !rcolB X.f1 || !EvP.nameB X.f2) from rfl)
             have hu3 := Try.underlying43
             clear hX
             generalize EvP.nameB X.f2 = nm at *
             generalize rcolB X.f1 = cl at *
             obtain ⟨p0, hp0⟩ : ∃ v, decide (X.f0 < 1) = v := ⟨_, rfl⟩
             obtain ⟨p1, hp1⟩ : ∃ v, decide (X.f0 > 7) = v := ⟨_, rfl⟩
             rw [hp0, hp1] at HA
             go_upto_region 31 with fail
             cases p0
             ·cases p1
              ·cases cl
               ·go_wp2_with (first
                 | (go_at_call 49; (with_reducible refine (C.out _).mono ?_); rintro e w1 ⟨rfl, hd1⟩; obtain ⟨n1, rfl⟩ := hd1.out)
                 | (go_at_call 51; (with_reducible refine (P.out _).mono ?_); rintro e w1 ⟨rfl, hd1⟩; obtain ⟨n2, rfl⟩ := hd1.out))
                go_ret
                refine ⟨?_, by repeat (first | exact (HW.out.trans (HBr3.out.mono HW.out.size)) | apply pw_below_drewN | apply below_alloc)⟩
                have hres : listsR l0_4 l0_5 l0_6 = false := by
                 refine ka_not6 (x := X) ?_ (by rw [HA.out]; simp)
                 rw [← HX.out]; exact List.getElem_mem c
                simp only [hres, hv0, hv1, hv2, hv3, hv4, Bool.not_true, Bool.not_false, Bool.true_and, Bool.false_and]
                try rfl
               ·cases nm
                ·go_wp2_with (first
                  | (go_at_call 49; (with_reducible refine (C.out _).mono ?_); rintro e w1 ⟨rfl, hd1⟩; obtain ⟨n1, rfl⟩ := hd1.out)
                  | (go_at_call 51; (with_reducible refine (P.out _).mono ?_); rintro e w1 ⟨rfl, hd1⟩; obtain ⟨n2, rfl⟩ := hd1.out))
                 go_ret
                 refine ⟨?_, by repeat (first | exact (HW.out.trans (HBr3.out.mono HW.out.size)) | apply pw_below_drewN | apply below_alloc)⟩
                 have hres : listsR l0_4 l0_5 l0_6 = false := by
                  refine ka_not6 (x := X) ?_ (by rw [HA.out]; simp)
                  rw [← HX.out]; exact List.getElem_mem c
                 simp only [hres, hv0, hv1, hv2, hv3, hv4, Bool.not_true, Bool.not_false, Bool.true_and, Bool.false_and]
                 try rfl
                ·go_wp2_with (first
                  | (go_at_call 49; (with_reducible refine (C.out _).mono ?_); rintro e w1 ⟨rfl, hd1⟩; obtain ⟨n1, rfl⟩ := hd1.out)
                  | (go_at_call 51; (with_reducible refine (P.out _).mono ?_); rintro e w1 ⟨rfl, hd1⟩; obtain ⟨n2, rfl⟩ := hd1.out))
                 go_roundw
                 case rel =>
                  refine ⟨k + 1, by omega, by go_num, ⟨fun x hx => ?_⟩, ⟨by repeat (first | exact HBr3.out | apply pw_below_drewN | apply below_alloc)⟩⟩
                  have hx' := (ix_mem_take l0_6 k c x).1 hx
                  cases hx' with
                  | inl h => exact HN.out x h
                  | inr h => rw [h, HX.out, HA.out]; rfl
                 case measure => simp [intOf]; omega
              ·go_wp2_with (first
                | (go_at_call 49; (with_reducible refine (C.out _).mono ?_); rintro e w1 ⟨rfl, hd1⟩; obtain ⟨n1, rfl⟩ := hd1.out)
                | (go_at_call 51; (with_reducible refine (P.out _).mono ?_); rintro e w1 ⟨rfl, hd1⟩; obtain ⟨n2, rfl⟩ := hd1.out))
               go_ret
               refine ⟨?_, by repeat (first | exact (HW.out.trans (HBr3.out.mono HW.out.size)) | apply pw_below_drewN | apply below_alloc)⟩
               have hres : listsR l0_4 l0_5 l0_6 = false := by
                refine ka_not6 (x := X) ?_ (by rw [HA.out]; simp)
                rw [← HX.out]; exact List.getElem_mem c
               simp only [hres, hv0, hv1, hv2, hv3, hv4, Bool.not_true, Bool.not_false, Bool.true_and, Bool.false_and]
               try rfl
             ·go_wp2_with (first
               | (go_at_call 49; (with_reducible refine (C.out _).mono ?_); rintro e w1 ⟨rfl, hd1⟩; obtain ⟨n1, rfl⟩ := hd1.out)
               | (go_at_call 51; (with_reducible refine (P.out _).mono ?_); rintro e w1 ⟨rfl, hd1⟩; obtain ⟨n2, rfl⟩ := hd1.out))
              go_ret
              refine ⟨?_, by repeat (first | exact (HW.out.trans (HBr3.out.mono HW.out.size)) | apply pw_below_drewN | apply below_alloc)⟩
              have hres : listsR l0_4 l0_5 l0_6 = false := by
               refine ka_not6 (x := X) ?_ (by rw [HA.out]; simp)
               rw [← HX.out]; exact List.getElem_mem c
              simp only [hres, hv0, hv1, hv2, hv3, hv4, Bool.not_true, Bool.not_false, Bool.true_and, Bool.false_and]
              try rfl
            ·obtain rfl : k = l0_6.length := by omega
             have H6 := Lib.hid (ka_all (fun x hx => HN.out x (by rw [List.take_length]; exact hx)))
             clear HN c hk hl6
             go_wp2
             go_ret
             refine ⟨?_, HW.out.trans (HBr3.out.mono HW.out.size)⟩
             have hres : listsR l0_4 l0_5 l0_6 = true := ka_yes H4.out H5.out H6.out
             simp only [hres, hv0, hv1, hv2, hv3, hv4, Bool.not_true, Bool.not_false, Bool.true_and, Bool.false_and]
             try rfl
end Go.Proofs.Ytpidiibhgfjemaa.PLh
end
section
namespace Go.Proofs.Ytpidiibhgfjemaa.PLh
open Go.Proofs.Ytpidiibhgfjemaa.PLg
open Go.RowKit Go.Proofs.YtpidiibhgfjemaaW.PrintWords Go.Proofs.YtpidiibhgfjemaaW.PrintLast Go.Proofs.YtpidiibhgfjemaaW.PrintMore
set_option linter.unusedVariables false
set_option linter.unusedSimpArgs false
attribute [local go_sem high] eqA34
set_option maxHeartbeats 4000000 in
set_option maxRecDepth 100000 in
theorem fld9_calls (a0_1 : Int) (a0_2 : Int) (A0_3 : Option Addr) (c0_3 : Nat) (l0_3 : List (List (S79))) (A0_4 : Option Addr) (c0_4 : Nat) (l0_4 : List ByteArray) (A0_5 : Option Addr) (c0_5 : Nat) (l0_5 : List Int) (A0_6 : Option Addr) (c0_6 : Nat) (l0_6 : List (S43)) (a0_7 : Int) (a0_8 : Int) (a0_9 : Int) (a0_10 : Int) (a0_11 : Int) (w : World) (hr0_3 : Kd.C (Kd.slice 79 k79) w A0_3 l0_3.length l0_3) (hc0_3 : l0_3.length ≤ c0_3) (hr0_4 : Kd.C Kd.string w A0_4 l0_4.length l0_4) (hc0_4 : l0_4.length ≤ c0_4) (hr0_5 : Kd.C (Kd.int .i64) w A0_5 l0_5.length l0_5) (hc0_5 : l0_5.length ≤ c0_5) (hr0_6 : Kd.C k43 w A0_6 l0_6.length l0_6) (hc0_6 : l0_6.length ≤ c0_6) (hl4 : l0_4.length ≤ 1000) (hl5 : l0_5.length ≤ 1000) (hl6 : l0_6.length ≤ 1000) :
  Calls Try.prog 31 #[.agg #[.int .i64 9, .int .i64 a0_1, .int .i64 a0_2, .slice A0_3 l0_3.length c0_3, .slice A0_4 l0_4.length c0_4, .slice A0_5 l0_5.length c0_5, .slice A0_6 l0_6.length c0_6, .int .i64 a0_7, .int .i64 a0_8, .int .i64 a0_9, .int .i64 a0_10, .int .i64 a0_11]] w fun e w' => e = .returned (.bool (!(a0_2 != 0) && (!(decide (0 < l0_4.length)) && (!(decide (0 < l0_6.length)) && (!(decide (0 < l0_3.length)) && (!(decide (a0_10 < 1)) && (!(decide (a0_10 > 64)) && (!(!rcolB a0_11) && (!(!rmayB a0_7 a0_8 a0_9) && (listsR l0_4 l0_5 l0_6)))))))))) ∧ Below w.heap.size w w' := by
 have hu := Try.underlying40
 have hu2 := Try.underlying34
 have TWO := Lib.hid (fun w => rescindref36_Two.calls 9 _ w rfl)
 have COL := Lib.hid (fun w => rcol_calls a0_11 w)
 have MAY := Lib.hid (fun w => rmay_calls a0_7 a0_8 a0_9 w)
 have HR4 := Aside0.mk hr0_4
 have HR5 := Aside0.mk hr0_5
 have HR6 := Aside0.mk hr0_6
 have HL := Lib.hid (And.intro hl4 (And.intro hl5 hl6))
 clear hr0_3 hc0_3 hr0_4 hc0_4 hr0_5 hc0_5 hr0_6 hc0_6 hl4 hl5 hl6
 have HB := Lib.hid (Below.alloc (Below.refl w.heap.size w) (Nat.le_refl _) (.cells #[.int .i64 9, .int .i64 a0_1, .int .i64 a0_2, .slice A0_3 l0_3.length c0_3, .slice A0_4 l0_4.length c0_4, .slice A0_5 l0_5.length c0_5, .slice A0_6 l0_6.length c0_6, .int .i64 a0_7, .int .i64 a0_8, .int .i64 a0_9, .int .i64 a0_10, .int .i64 a0_11] 40 (0, 0)))
 generalize hrc : rcolB a0_11 = rc at *
 generalize hrm : rmayB a0_7 a0_8 a0_9 = rm at *
 clear hrc hrm
 obtain ⟨v0, hv0⟩ : ∃ v, (a0_2 != 0) = v := ⟨_, rfl⟩
 obtain ⟨v1, hv1⟩ : ∃ v, decide (0 < l0_4.length) = v := ⟨_, rfl⟩
 have hv1a : decide ((l0_4.length : Int) > 0) = v1 := by rw [← hv1]; first | rfl | simp
 obtain ⟨v2, hv2⟩ : ∃ v, decide (0 < l0_6.length) = v := ⟨_, rfl⟩
 have hv2a : decide ((l0_6.length : Int) > 0) = v2 := by rw [← hv2]; first | rfl | simp
 obtain ⟨v3, hv3⟩ : ∃ v, decide (0 < l0_3.length) = v := ⟨_, rfl⟩
 have hv3a : decide ((l0_3.length : Int) > 0) = v3 := by rw [← hv3]; first | rfl | simp
 obtain ⟨v4, hv4⟩ : ∃ v, decide (a0_10 < 1) = v := ⟨_, rfl⟩
 obtain ⟨v5, hv5⟩ : ∃ v, decide (a0_10 > 64) = v := ⟨_, rfl⟩
 go_enter Try.func31, Try.ntmps31
 go_upto_region 3 with (first
   | (go_at_call 48; (with_reducible refine (TWO.out _).mono ?_); rintro e w1 ⟨rfl, hd1⟩; obtain ⟨n1, rfl⟩ := hd1.out)
   | (go_at_call 49; (with_reducible refine (COL.out _).mono ?_); rintro e w1 ⟨rfl, hd1⟩; obtain ⟨n1, rfl⟩ := hd1.out)
   | (go_at_call 50; (with_reducible refine (MAY.out _).mono ?_); rintro e w1 ⟨rfl, hb1⟩; have H1 := Lib.hid (join_below HB.out hb1 ⟨rfl, rfl, rfl, rfl⟩ (by simp)); have N1 := Lib.hid (loop_cells hb1 (v := _) ⟨rfl, rfl, rfl, rfl⟩ (blk_new w _)); clear hb1))
 cases v0
 rotate_left
 ·go_wp2_with (first
    | (go_at_call 48; (with_reducible refine (TWO.out _).mono ?_); rintro e w1 ⟨rfl, hd1⟩; obtain ⟨n1, rfl⟩ := hd1.out)
    | (go_at_call 49; (with_reducible refine (COL.out _).mono ?_); rintro e w1 ⟨rfl, hd1⟩; obtain ⟨n1, rfl⟩ := hd1.out)
    | (go_at_call 50; (with_reducible refine (MAY.out _).mono ?_); rintro e w1 ⟨rfl, hb1⟩; have H1 := Lib.hid (join_below HB.out hb1 ⟨rfl, rfl, rfl, rfl⟩ (by simp)); have N1 := Lib.hid (loop_cells hb1 (v := _) ⟨rfl, rfl, rfl, rfl⟩ (blk_new w _)); clear hb1))
  go_ret
  refine ⟨?_, by repeat (first | exact HB.out | exact H1.out | apply pw_below_drewN)⟩
  simp only [hv0, Bool.not_true, Bool.not_false, Bool.true_and, Bool.false_and]
  try rfl
 ·skip
  go_upto_region 5 with (first
    | (go_at_call 48; (with_reducible refine (TWO.out _).mono ?_); rintro e w1 ⟨rfl, hd1⟩; obtain ⟨n1, rfl⟩ := hd1.out)
    | (go_at_call 49; (with_reducible refine (COL.out _).mono ?_); rintro e w1 ⟨rfl, hd1⟩; obtain ⟨n1, rfl⟩ := hd1.out)
    | (go_at_call 50; (with_reducible refine (MAY.out _).mono ?_); rintro e w1 ⟨rfl, hb1⟩; have H1 := Lib.hid (join_below HB.out hb1 ⟨rfl, rfl, rfl, rfl⟩ (by simp)); have N1 := Lib.hid (loop_cells hb1 (v := _) ⟨rfl, rfl, rfl, rfl⟩ (blk_new w _)); clear hb1))
  cases v1
  rotate_left
  ·go_wp2_with (first
     | (go_at_call 48; (with_reducible refine (TWO.out _).mono ?_); rintro e w1 ⟨rfl, hd1⟩; obtain ⟨n1, rfl⟩ := hd1.out)
     | (go_at_call 49; (with_reducible refine (COL.out _).mono ?_); rintro e w1 ⟨rfl, hd1⟩; obtain ⟨n1, rfl⟩ := hd1.out)
     | (go_at_call 50; (with_reducible refine (MAY.out _).mono ?_); rintro e w1 ⟨rfl, hb1⟩; have H1 := Lib.hid (join_below HB.out hb1 ⟨rfl, rfl, rfl, rfl⟩ (by simp)); have N1 := Lib.hid (loop_cells hb1 (v := _) ⟨rfl, rfl, rfl, rfl⟩ (blk_new w _)); clear hb1))
   go_ret
   refine ⟨?_, by repeat (first | exact HB.out | exact H1.out | apply pw_below_drewN)⟩
   simp only [hv0, hv1, Bool.not_true, Bool.not_false, Bool.true_and, Bool.false_and]
   try rfl
  ·skip
   cases v2
   rotate_left
   ·go_wp2_with (first
      | (go_at_call 48; (with_reducible refine (TWO.out _).mono ?_); rintro e w1 ⟨rfl, hd1⟩; obtain ⟨n1, rfl⟩ := hd1.out)
      | (go_at_call 49; (with_reducible refine (COL.out _).mono ?_); rintro e w1 ⟨rfl, hd1⟩; obtain ⟨n1, rfl⟩ := hd1.out)
      | (go_at_call 50; (with_reducible refine (MAY.out _).mono ?_); rintro e w1 ⟨rfl, hb1⟩; have H1 := Lib.hid (join_below HB.out hb1 ⟨rfl, rfl, rfl, rfl⟩ (by simp)); have N1 := Lib.hid (loop_cells hb1 (v := _) ⟨rfl, rfl, rfl, rfl⟩ (blk_new w _)); clear hb1))
    go_ret
    refine ⟨?_, by repeat (first | exact HB.out | exact H1.out | apply pw_below_drewN)⟩
    simp only [hv0, hv1, hv2, Bool.not_true, Bool.not_false, Bool.true_and, Bool.false_and]
    try rfl
   ·skip
    go_upto_region 9 with (first
      | (go_at_call 48; (with_reducible refine (TWO.out _).mono ?_); rintro e w1 ⟨rfl, hd1⟩; obtain ⟨n1, rfl⟩ := hd1.out)
      | (go_at_call 49; (with_reducible refine (COL.out _).mono ?_); rintro e w1 ⟨rfl, hd1⟩; obtain ⟨n1, rfl⟩ := hd1.out)
      | (go_at_call 50; (with_reducible refine (MAY.out _).mono ?_); rintro e w1 ⟨rfl, hb1⟩; have H1 := Lib.hid (join_below HB.out hb1 ⟨rfl, rfl, rfl, rfl⟩ (by simp)); have N1 := Lib.hid (loop_cells hb1 (v := _) ⟨rfl, rfl, rfl, rfl⟩ (blk_new w _)); clear hb1))
    cases v3
    rotate_left
    ·go_wp2_with (first
       | (go_at_call 48; (with_reducible refine (TWO.out _).mono ?_); rintro e w1 ⟨rfl, hd1⟩; obtain ⟨n1, rfl⟩ := hd1.out)
       | (go_at_call 49; (with_reducible refine (COL.out _).mono ?_); rintro e w1 ⟨rfl, hd1⟩; obtain ⟨n1, rfl⟩ := hd1.out)
       | (go_at_call 50; (with_reducible refine (MAY.out _).mono ?_); rintro e w1 ⟨rfl, hb1⟩; have H1 := Lib.hid (join_below HB.out hb1 ⟨rfl, rfl, rfl, rfl⟩ (by simp)); have N1 := Lib.hid (loop_cells hb1 (v := _) ⟨rfl, rfl, rfl, rfl⟩ (blk_new w _)); clear hb1))
     go_ret
     refine ⟨?_, by repeat (first | exact HB.out | exact H1.out | apply pw_below_drewN)⟩
     simp only [hv0, hv1, hv2, hv3, Bool.not_true, Bool.not_false, Bool.true_and, Bool.false_and]
     try rfl
    ·skip
     go_upto_region 13 with (first
       | (go_at_call 48; (with_reducible refine (TWO.out _).mono ?_); rintro e w1 ⟨rfl, hd1⟩; obtain ⟨n1, rfl⟩ := hd1.out)
       | (go_at_call 49; (with_reducible refine (COL.out _).mono ?_); rintro e w1 ⟨rfl, hd1⟩; obtain ⟨n1, rfl⟩ := hd1.out)
       | (go_at_call 50; (with_reducible refine (MAY.out _).mono ?_); rintro e w1 ⟨rfl, hb1⟩; have H1 := Lib.hid (join_below HB.out hb1 ⟨rfl, rfl, rfl, rfl⟩ (by simp)); have N1 := Lib.hid (loop_cells hb1 (v := _) ⟨rfl, rfl, rfl, rfl⟩ (blk_new w _)); clear hb1))
     cases v4
     rotate_left
     ·go_wp2_with (first
        | (go_at_call 48; (with_reducible refine (TWO.out _).mono ?_); rintro e w1 ⟨rfl, hd1⟩; obtain ⟨n1, rfl⟩ := hd1.out)
        | (go_at_call 49; (with_reducible refine (COL.out _).mono ?_); rintro e w1 ⟨rfl, hd1⟩; obtain ⟨n1, rfl⟩ := hd1.out)
        | (go_at_call 50; (with_reducible refine (MAY.out _).mono ?_); rintro e w1 ⟨rfl, hb1⟩; have H1 := Lib.hid (join_below HB.out hb1 ⟨rfl, rfl, rfl, rfl⟩ (by simp)); have N1 := Lib.hid (loop_cells hb1 (v := _) ⟨rfl, rfl, rfl, rfl⟩ (blk_new w _)); clear hb1))
      go_ret
      refine ⟨?_, by repeat (first | exact HB.out | exact H1.out | apply pw_below_drewN)⟩
      simp only [hv0, hv1, hv2, hv3, hv4, Bool.not_true, Bool.not_false, Bool.true_and, Bool.false_and]
      try rfl
     ·skip
      cases v5
      rotate_left
      ·go_wp2_with (first
         | (go_at_call 48; (with_reducible refine (TWO.out _).mono ?_); rintro e w1 ⟨rfl, hd1⟩; obtain ⟨n1, rfl⟩ := hd1.out)
         | (go_at_call 49; (with_reducible refine (COL.out _).mono ?_); rintro e w1 ⟨rfl, hd1⟩; obtain ⟨n1, rfl⟩ := hd1.out)
         | (go_at_call 50; (with_reducible refine (MAY.out _).mono ?_); rintro e w1 ⟨rfl, hb1⟩; have H1 := Lib.hid (join_below HB.out hb1 ⟨rfl, rfl, rfl, rfl⟩ (by simp)); have N1 := Lib.hid (loop_cells hb1 (v := _) ⟨rfl, rfl, rfl, rfl⟩ (blk_new w _)); clear hb1))
       go_ret
       refine ⟨?_, by repeat (first | exact HB.out | exact H1.out | apply pw_below_drewN)⟩
       simp only [hv0, hv1, hv2, hv3, hv4, hv5, Bool.not_true, Bool.not_false, Bool.true_and, Bool.false_and]
       try rfl
      ·skip
       cases rc
       ·go_wp2_with (first
          | (go_at_call 48; (with_reducible refine (TWO.out _).mono ?_); rintro e w1 ⟨rfl, hd1⟩; obtain ⟨n1, rfl⟩ := hd1.out)
          | (go_at_call 49; (with_reducible refine (COL.out _).mono ?_); rintro e w1 ⟨rfl, hd1⟩; obtain ⟨n1, rfl⟩ := hd1.out)
          | (go_at_call 50; (with_reducible refine (MAY.out _).mono ?_); rintro e w1 ⟨rfl, hb1⟩; have H1 := Lib.hid (join_below HB.out hb1 ⟨rfl, rfl, rfl, rfl⟩ (by simp)); have N1 := Lib.hid (loop_cells hb1 (v := _) ⟨rfl, rfl, rfl, rfl⟩ (blk_new w _)); clear hb1))
        go_ret
        refine ⟨?_, by repeat (first | exact HB.out | exact H1.out | apply pw_below_drewN)⟩
        simp only [hv0, hv1, hv2, hv3, hv4, hv5, Bool.not_true, Bool.not_false, Bool.true_and, Bool.false_and]
        try rfl
       ·skip
        go_upto_region 15 with (first
          | (go_at_call 48; (with_reducible refine (TWO.out _).mono ?_); rintro e w1 ⟨rfl, hd1⟩; obtain ⟨n1, rfl⟩ := hd1.out)
          | (go_at_call 49; (with_reducible refine (COL.out _).mono ?_); rintro e w1 ⟨rfl, hd1⟩; obtain ⟨n1, rfl⟩ := hd1.out)
          | (go_at_call 50; (with_reducible refine (MAY.out _).mono ?_); rintro e w1 ⟨rfl, hb1⟩; have H1 := Lib.hid (join_below HB.out hb1 ⟨rfl, rfl, rfl, rfl⟩ (by simp)); have N1 := Lib.hid (loop_cells hb1 (v := _) ⟨rfl, rfl, rfl, rfl⟩ (blk_new w _)); clear hb1))
        cases rm
        ·go_wp2_with (first
           | (go_at_call 48; (with_reducible refine (TWO.out _).mono ?_); rintro e w1 ⟨rfl, hd1⟩; obtain ⟨n1, rfl⟩ := hd1.out)
           | (go_at_call 49; (with_reducible refine (COL.out _).mono ?_); rintro e w1 ⟨rfl, hd1⟩; obtain ⟨n1, rfl⟩ := hd1.out)
           | (go_at_call 50; (with_reducible refine (MAY.out _).mono ?_); rintro e w1 ⟨rfl, hb1⟩; have H1 := Lib.hid (join_below HB.out hb1 ⟨rfl, rfl, rfl, rfl⟩ (by simp)); have N1 := Lib.hid (loop_cells hb1 (v := _) ⟨rfl, rfl, rfl, rfl⟩ (blk_new w _)); clear hb1))
         go_ret
         refine ⟨?_, by repeat (first | exact HB.out | exact H1.out | apply pw_below_drewN)⟩
         simp only [hv0, hv1, hv2, hv3, hv4, hv5, Bool.not_true, Bool.not_false, Bool.true_and, Bool.false_and]
         try rfl
        ·skip
         go_upto_region 17 with (first
           | (go_at_call 48; (with_reducible refine (TWO.out _).mono ?_); rintro e w1 ⟨rfl, hd1⟩; obtain ⟨n1, rfl⟩ := hd1.out)
           | (go_at_call 49; (with_reducible refine (COL.out _).mono ?_); rintro e w1 ⟨rfl, hd1⟩; obtain ⟨n1, rfl⟩ := hd1.out)
           | (go_at_call 50; (with_reducible refine (MAY.out _).mono ?_); rintro e w1 ⟨rfl, hb1⟩; have H1 := Lib.hid (join_below HB.out hb1 ⟨rfl, rfl, rfl, rfl⟩ (by simp)); have N1 := Lib.hid (loop_cells hb1 (v := _) ⟨rfl, rfl, rfl, rfl⟩ (blk_new w _)); clear hb1))
         refine gen_world (fun W => Below w.heap.size w W ∧ W.heap[w.heap.size]? = some (.cells #[.int .i64 9, .int .i64 a0_1, .int .i64 a0_2, .slice A0_3 l0_3.length c0_3, .slice A0_4 l0_4.length c0_4, .slice A0_5 l0_5.length c0_5, .slice A0_6 l0_6.length c0_6, .int .i64 a0_7, .int .i64 a0_8, .int .i64 a0_9, .int .i64 a0_10, .int .i64 a0_11] 40 (0, 0))) ?_ ?_
         ·exact ⟨by repeat (first | exact HB.out | exact H1.out | apply pw_below_drewN), by first | exact N1.out | exact blk_new w _⟩
         intro W hW
         obtain ⟨hBW, hNW⟩ := hW
         have HW := Lib.hid hBW
         have LT := Lib.hid (Array.getElem?_eq_some_iff.1 hNW).1
         have z4 := Lib.hid ((blk_cell hNW 4).trans rfl : W.cell? ⟨w.heap.size, 4, none⟩ = some (.slice A0_4 l0_4.length c0_4))
         have z5 := Lib.hid ((blk_cell hNW 5).trans rfl : W.cell? ⟨w.heap.size, 5, none⟩ = some (.slice A0_5 l0_5.length c0_5))
         have z6 := Lib.hid ((blk_cell hNW 6).trans rfl : W.cell? ⟨w.heap.size, 6, none⟩ = some (.slice A0_6 l0_6.length c0_6))
         clear hBW hNW HB
         go_wp2
         go_loopw [5] (fun v5 wr => ∃ k : Nat, k ≤ l0_4.length ∧ v5 = .int .i64 (k : Int) ∧ Aside0 (∀ x ∈ l0_4.take k, EvP.nameB x = true) ∧ Aside0 (Below W.heap.size W wr)) (fun v5 wr => l0_4.length - (intOf v5).toNat)
         case atStart => exact ⟨0, by omega, rfl, ⟨by simp⟩, ⟨Below.refl _ _⟩⟩
         case round =>
          obtain ⟨k, hk, rfl, HN, HBr⟩ := hrel
          have hl4 : l0_4.length ≤ 1000 := HL.out.1
          have y4 := (HBr.out.cell (p := ⟨w.heap.size, 4, none⟩) LT.out).trans z4.out
          by_cases c : k < l0_4.length
          ·obtain ⟨X, hX⟩ : ∃ X, l0_4[k] = X := ⟨_, rfl⟩
           obtain ⟨ad, e1, hx0⟩ := ix_at_str (Kd.C_below (Kd.C_below HR4.out HW.out) HBr.out) k c
           rw [hX] at hx0
           cases e1
           have P := Lib.hid (rname_calls X)
           have HX := Lib.hid hX
           clear hX
           cases hpx : EvP.nameB X
           ·rw [hpx] at P
            have HPX := Lib.hid hpx
            clear hpx
            go_wp2_with ((with_reducible refine (P.out _).mono ?_); rintro e w1 ⟨rfl, hd1⟩; obtain ⟨n1, rfl⟩ := hd1.out)
            go_ret
            refine ⟨?_, pw_below_drewN (HW.out.trans (HBr.out.mono HW.out.size)) _⟩
            have hres : listsR l0_4 l0_5 l0_6 = false := by
             refine ka_not4 ?_ HPX.out
             rw [← HX.out]; exact List.getElem_mem c
            simp only [hres, hv0, hv1, hv2, hv3, hv4, hv5, Bool.not_true, Bool.not_false, Bool.true_and, Bool.false_and]
            try rfl
           ·rw [hpx] at P
            have HPX := Lib.hid hpx
            clear hpx
            go_wp2_with ((with_reducible refine (P.out _).mono ?_); rintro e w1 ⟨rfl, hd1⟩; obtain ⟨n1, rfl⟩ := hd1.out)
            go_roundw
            case rel =>
             refine ⟨k + 1, by omega, by go_num, ⟨fun x hx => ?_⟩, ⟨pw_below_drewN HBr.out _⟩⟩
             have hx' := (ix_mem_take l0_4 k c x).1 hx
             cases hx' with
             | inl h => exact HN.out x h
             | inr h => rw [h, HX.out]; exact HPX.out
            case measure => simp [intOf]; omega
          ·obtain rfl : k = l0_4.length := by omega
           have H4 := Lib.hid (ka_all (fun x hx => HN.out x (by rw [List.take_length]; exact hx)))
           clear HN c hk hl4
           have y5 := Lib.hid ((HBr.out.cell (p := ⟨w.heap.size, 5, none⟩) LT.out).trans z5.out)
           go_wp2
           go_loopw [6] (fun v6 wr2 => ∃ k : Nat, k ≤ l0_5.length ∧ v6 = .int .i64 (k : Int) ∧ Aside0 (∀ x ∈ l0_5.take k, rcolB x = true) ∧ Aside0 (Below W.heap.size W wr2)) (fun v6 wr2 => l0_5.length - (intOf v6).toNat)
           case atStart => exact ⟨0, by omega, rfl, ⟨by simp⟩, ⟨HBr.out⟩⟩
           case round =>
            obtain ⟨k, hk, rfl, HN, HBr2⟩ := hrel
            have hl5 : l0_5.length ≤ 1000 := HL.out.2.1
            have y5 := (HBr2.out.cell (p := ⟨w.heap.size, 5, none⟩) LT.out).trans z5.out
            by_cases c : k < l0_5.length
            ·obtain ⟨X, hX⟩ : ∃ X, l0_5[k] = X := ⟨_, rfl⟩
             obtain ⟨ad, e1, hx0⟩ := ix_at_int (Kd.C_below (Kd.C_below HR5.out HW.out) HBr2.out) k c
             rw [hX] at hx0
             cases e1
             have P := Lib.hid (rcol_calls X)
             have HX := Lib.hid hX
             clear hX
             cases hpx : rcolB X
             ·rw [hpx] at P
              have HPX := Lib.hid hpx
              clear hpx
              go_wp2_with ((with_reducible refine (P.out _).mono ?_); rintro e w1 ⟨rfl, hd1⟩; obtain ⟨n1, rfl⟩ := hd1.out)
              go_ret
              refine ⟨?_, pw_below_drewN (HW.out.trans (HBr2.out.mono HW.out.size)) _⟩
              have hres : listsR l0_4 l0_5 l0_6 = false := by
               refine ka_not5 ?_ HPX.out
               rw [← HX.out]; exact List.getElem_mem c
              simp only [hres, hv0, hv1, hv2, hv3, hv4, hv5, Bool.not_true, Bool.not_false, Bool.true_and, Bool.false_and]
              try rfl
             ·rw [hpx] at P
              have HPX := Lib.hid hpx
              clear hpx
              go_wp2_with ((with_reducible refine (P.out _).mono ?_); rintro e w1 ⟨rfl, hd1⟩; obtain ⟨n1, rfl⟩ := hd1.out)
              go_roundw
              case rel =>
               refine ⟨k + 1, by omega, by go_num, ⟨fun x hx => ?_⟩, ⟨pw_below_drewN HBr2.out _⟩⟩
               have hx' := (ix_mem_take l0_5 k c x).1 hx
               cases hx' with
               | inl h => exact HN.out x h
               | inr h => rw [h, HX.out]; exact HPX.out
              case measure => simp [intOf]; omega
            ·obtain rfl : k = l0_5.length := by omega
             have H5 := Lib.hid (ka_all (fun x hx => HN.out x (by rw [List.take_length]; exact hx)))
             clear HN c hk hl5
             have y6 := Lib.hid ((HBr2.out.cell (p := ⟨w.heap.size, 6, none⟩) LT.out).trans z6.out)
             go_wp2
             go_loopw [7] (fun v7 wr3 => ∃ k : Nat, k ≤ l0_6.length ∧ v7 = .int .i64 (k : Int) ∧ Aside0 (∀ x ∈ l0_6.take k, raggB x = true) ∧ Aside0 (Below W.heap.size W wr3)) (fun v7 wr3 => l0_6.length - (intOf v7).toNat)
             case atStart => exact ⟨0, by omega, rfl, ⟨by simp⟩, ⟨HBr2.out⟩⟩
             case round =>
              obtain ⟨k, hk, rfl, HN, HBr3⟩ := hrel
              have hl6 : l0_6.length ≤ 1000 := HL.out.2.2
              have y6 := (HBr3.out.cell (p := ⟨w.heap.size, 6, none⟩) LT.out).trans z6.out
              by_cases c : k < l0_6.length
              ·obtain ⟨X, hX⟩ : ∃ X, l0_6[k] = X := ⟨_, rfl⟩
               obtain ⟨ad, e1, hx0, hx1, hx2⟩ := at_T43 (Kd.C_below (Kd.C_below HR6.out HW.out) HBr3.out) (k : Int) (by omega) (by omega)
               have hrd : rd_T43 l0_6 (k : Int) = X := by
                unfold rd_T43
                rw [Int.toNat_natCast, List.getD_eq_getElem?_getD, List.getElem?_eq_getElem c]
                exact hX
               rw [Int.toNat_natCast, hrd] at hx0 hx1 hx2
               clear hrd
               cases e1
               have P := Lib.hid (rname_calls X.f2)
               have C := Lib.hid (rcol_calls X.f1)
               have HX := Lib.hid hX
               have HA := Lib.hid (show raggB X = !(decide (X.f0 < 1) || decide (X.f0 > 7) || !rcolB X.f1 || !EvP.nameB X.f2) from rfl)
               have hu3 := Try.underlying43
               clear hX
               generalize EvP.nameB X.f2 = nm at *
               generalize rcolB X.f1 = cl at *
               obtain ⟨p0, hp0⟩ : ∃ v, decide (X.f0 < 1) = v := ⟨_, rfl⟩
               obtain ⟨p1, hp1⟩ : ∃ v, decide (X.f0 > 7) = v := ⟨_, rfl⟩
               rw [hp0, hp1] at HA
               go_upto_region 31 with fail
               cases p0
               ·cases p1
                ·cases cl
                 ·go_wp2_with (first
                   | (go_at_call 49; (with_reducible refine (C.out _).mono ?_); rintro e w1 ⟨rfl, hd1⟩; obtain ⟨n1, rfl⟩ := hd1.out)
                   | (go_at_call 51; (with_reducible refine (P.out _).mono ?_); rintro e w1 ⟨rfl, hd1⟩; obtain ⟨n2, rfl⟩ := hd1.out))
                  go_ret
                  refine ⟨?_, by repeat (first | exact (HW.out.trans (HBr3.out.mono HW.out.size)) | apply pw_below_drewN | apply below_alloc)⟩
                  have hres : listsR l0_4 l0_5 l0_6 = false := by
                   refine ka_not6 (x := X) ?_ (by rw [HA.out]; simp)
                   rw [← HX.out]; exact List.getElem_mem c
                  simp only [hres, hv0, hv1, hv2, hv3, hv4, hv5, Bool.not_true, Bool.not_false, Bool.true_and, Bool.false_and]
                  try rfl
                 ·cases nm
                  ·go_wp2_with (first
                    | (go_at_call 49; (with_reducible refine (C.out _).mono ?_); rintro e w1 ⟨rfl, hd1⟩; obtain ⟨n1, rfl⟩ := hd1.out)
                    | (go_at_call 51; (with_reducible refine (P.out _).mono ?_); rintro e w1 ⟨rfl, hd1⟩; obtain ⟨n2, rfl⟩ := hd1.out))
                   go_ret
                   refine ⟨?_, by repeat (first | exact (HW.out.trans (HBr3.out.mono HW.out.size)) | apply pw_below_drewN | apply below_alloc)⟩
                   have hres : listsR l0_4 l0_5 l0_6 = false := by
                    refine ka_not6 (x := X) ?_ (by rw [HA.out]; simp)
                    rw [← HX.out]; exact List.getElem_mem c
                   simp only [hres, hv0, hv1, hv2, hv3, hv4, hv5, Bool.not_true, Bool.not_false, Bool.true_and, Bool.false_and]
                   try rfl
                  ·go_wp2_with (first
                    | (go_at_call 49; (with_reducible refine (C.out _).mono ?_); rintro e w1 ⟨rfl, hd1⟩; obtain ⟨n1, rfl⟩ := hd1.out)
                    | (go_at_call 51; (with_reducible refine (P.out _).mono ?_); rintro e w1 ⟨rfl, hd1⟩; obtain ⟨n2, rfl⟩ := hd1.out))
                   go_roundw
                   case rel =>
                    refine ⟨k + 1, by omega, by go_num, ⟨fun x hx => ?_⟩, ⟨by repeat (first | exact HBr3.out | apply pw_below_drewN | apply below_alloc)⟩⟩
                    have hx' := (ix_mem_take l0_6 k c x).1 hx
                    cases hx' with
                    | inl h => exact HN.out x h
                    | inr h => rw [h, HX.out, HA.out]; rfl
                   case measure => simp [intOf]; omega
                ·go_wp2_with (first
                  | (go_at_call 49; (with_reducible refine (C.out _).mono ?_); rintro e w1 ⟨rfl, hd1⟩; obtain ⟨n1, rfl⟩ := hd1.out)
                  | (go_at_call 51; (with_reducible refine (P.out _).mono ?_); rintro e w1 ⟨rfl, hd1⟩; obtain ⟨n2, rfl⟩ := hd1.out))
                 go_ret
                 refine ⟨?_, by repeat (first | exact (HW.out.trans (HBr3.out.mono HW.out.size)) | apply pw_below_drewN | apply below_alloc)⟩
                 have hres : listsR l0_4 l0_5 l0_6 = false := by
                  refine ka_not6 (x := X) ?_ (by rw [HA.out]; simp)
                  rw [← HX.out]; exact List.getElem_mem c
                 simp only [hres, hv0, hv1, hv2, hv3, hv4, hv5, Bool.not_true, Bool.not_false, Bool.true_and, Bool.false_and]
                 try rfl
               ·go_wp2_with (first
                 | (go_at_call 49; (with_reducible refine (C.out _).mono ?_); rintro e w1 ⟨rfl, hd1⟩; obtain ⟨n1, rfl⟩ := hd1.out)
                 | (go_at_call 51; (with_reducible refine (P.out _).mono ?_); rintro e w1 ⟨rfl, hd1⟩; obtain ⟨n2, rfl⟩ := hd1.out))
                go_ret
                refine ⟨?_, by repeat (first | exact (HW.out.trans (HBr3.out.mono HW.out.size)) | apply pw_below_drewN | apply below_alloc)⟩
                have hres : listsR l0_4 l0_5 l0_6 = false := by
                 refine ka_not6 (x := X) ?_ (by rw [HA.out]; simp)
                 rw [← HX.out]; exact List.getElem_mem c
                simp only [hres, hv0, hv1, hv2, hv3, hv4, hv5, Bool.not_true, Bool.not_false, Bool.true_and, Bool.false_and]
                try rfl
              ·obtain rfl : k = l0_6.length := by omega
               have H6 := Lib.hid (ka_all (fun x hx => HN.out x (by rw [List.take_length]; exact hx)))
               clear HN c hk hl6
               go_wp2
               go_ret
               refine ⟨?_, HW.out.trans (HBr3.out.mono HW.out.size)⟩
               have hres : listsR l0_4 l0_5 l0_6 = true := ka_yes H4.out H5.out H6.out
               simp only [hres, hv0, hv1, hv2, hv3, hv4, hv5, Bool.not_true, Bool.not_false, Bool.true_and, Bool.false_and]
               try rfl
end Go.Proofs.Ytpidiibhgfjemaa.PLh
end
section
namespace Go.Proofs.Ytpidiibhgfjemaa.PLh
open Go.Proofs.Ytpidiibhgfjemaa.PLg
open Go.RowKit Go.Proofs.YtpidiibhgfjemaaW.PrintWords Go.Proofs.YtpidiibhgfjemaaW.PrintLast Go.Proofs.YtpidiibhgfjemaaW.PrintMore
open Go.Proofs.Ytpidiibhgfjemaa.PLo
set_option linter.unusedVariables false
set_option linter.unusedSimpArgs false
theorem rmay_eq (a b c : Int) : rmayB a b c = chkS a b c := by
 have h : rescindref30_May.f a b c = some (chkS a b c) := by
  unfold rescindref30_May.f rescindref28_May.f chkS spanB
  by_cases h2 : a = 2
  ·subst h2
   simp only [↓reduceIte, show ((2 : Int) = 1) = False from by decide]
   by_cases q1 : b > 0
   ·by_cases q2 : b ≤ 1099511627776
    ·by_cases q3 : c > 0
     ·simp [q1, q2, q3, show 1 ≤ b from q1, show 1 ≤ c from q3]
     ·simp [q1, q2, show ¬ (0 < c) from q3, show 1 ≤ b from q1, show ¬ 1 ≤ c from q3]
    ·simp [q1, q2, show 1 ≤ b from q1]
   ·simp [q1, show ¬ 1 ≤ b from q1]
  ·rw [if_neg h2]
   by_cases h1 : a = 1
   ·subst h1
    by_cases hc : c = 0 <;> by_cases hb : b = 0 <;> simp [hb, hc]
   ·by_cases h3 : a = 3
    ·subst h3
     by_cases hc : c = 0
     ·by_cases q1 : b > 0
      ·simp [hc, q1, show 1 ≤ b from q1]
      ·simp [hc, q1, show ¬ 1 ≤ b from q1]
     ·simp [hc]
    ·by_cases hc : c = 0 <;> simp [h1, h2, h3, hc]
 have h2 := rmayB_f a b c
 rw [h] at h2
 exact (Option.some.inj h2).symm
theorem win_own (a b c : Int) : ((if chkS a b c = true then (0 : Int) else 2) == 0) = chkS a b c := by cases chkS a b c <;> rfl
theorem win_own2 (a b c : Int) : ((if chkS a b c = true then (0 : Int) else 2) = 0) = (chkS a b c = true) := by cases chkS a b c <;> simp
theorem own_1 (a0_1 : Int) (a0_2 : Int) (l0_3 : List (List (S79))) (l0_4 : List ByteArray) (l0_5 : List Int) (l0_6 : List (S43)) (a0_7 : Int) (a0_8 : Int) (a0_9 : Int) (a0_10 : Int) (a0_11 : Int) : ownB 1 a0_1 a0_2 l0_3 l0_4 l0_5 l0_6 a0_7 a0_8 a0_9 a0_10 a0_11 = true := by
 unfold ownB
 have h : plan_own.f 1 1 a0_1 a0_2 l0_3 l0_4 l0_5 l0_6 a0_7 a0_8 a0_9 a0_10 a0_11 = some true := by
  simp only [plan_own.f, plan_own.j0, window_Check.f, colB_f, Option.bind_some, win_own, win_own2]
  simp
 rw [h]; rfl
theorem ok_1 (a0_1 : Int) (a0_2 : Int) (l0_3 : List (List (S79))) (l0_4 : List ByteArray) (l0_5 : List Int) (l0_6 : List (S43)) (a0_7 : Int) (a0_8 : Int) (a0_9 : Int) (a0_10 : Int) (a0_11 : Int) : okB 1 a0_1 a0_2 l0_3 l0_4 l0_5 l0_6 a0_7 a0_8 a0_9 a0_10 a0_11 = (!(a0_2 != 0) && (!(a0_11 != 0) && (!(a0_10 != 0) && (!(decide (0 < l0_4.length)) && (!(decide (0 < l0_6.length)) && (!(decide (0 < l0_5.length)) && (!(!a0_7 == 0 || (!a0_8 == 0 || !a0_9 == 0)) && (!(decide (0 < l0_3.length)) && (listsR l0_4 l0_5 l0_6))))))))) := by
 unfold okB specB
 rw [show fieldsT 1 = (false, false, false, false, false, false, false, false) from rfl, own_1, ← listsR_eq]
 unfold spareB
 simp only [List.zip_cons_cons, List.zip_nil_left, List.any_cons, List.any_nil, Bool.or_false, Bool.not_false, Bool.not_true, Bool.and_true, Bool.and_false, Bool.false_or, rmay_eq, rcol_eq]
 generalize (listsR l0_4 l0_5 l0_6) = z
 try generalize (a0_2 != 0) = g0
 try generalize (decide (0 < l0_3.length)) = g1
 try generalize (decide (0 < l0_4.length)) = g2
 try generalize (decide (0 < l0_5.length)) = g3
 try generalize (decide (0 < l0_6.length)) = g4
 try generalize (!a0_7 == 0 || (!a0_8 == 0 || !a0_9 == 0)) = g5
 try generalize (a0_10 != 0) = g6
 try generalize (a0_11 != 0) = g7
 (try cases z) <;> (try cases g0) <;> (try cases g1) <;> (try cases g2) <;> (try cases g3) <;> (try cases g4) <;> (try cases g5) <;> (try cases g6) <;> (try cases g7) <;> rfl
theorem own_2 (a0_1 : Int) (a0_2 : Int) (l0_3 : List (List (S79))) (l0_4 : List ByteArray) (l0_5 : List Int) (l0_6 : List (S43)) (a0_7 : Int) (a0_8 : Int) (a0_9 : Int) (a0_10 : Int) (a0_11 : Int) : ownB 2 a0_1 a0_2 l0_3 l0_4 l0_5 l0_6 a0_7 a0_8 a0_9 a0_10 a0_11 = ((l0_3.length : Int) == 1) := by
 unfold ownB
 have h : plan_own.f 1 2 a0_1 a0_2 l0_3 l0_4 l0_5 l0_6 a0_7 a0_8 a0_9 a0_10 a0_11 = some ((l0_3.length : Int) == 1) := by
  simp only [plan_own.f, plan_own.j0, window_Check.f, colB_f, Option.bind_some, win_own, win_own2]
  simp
 rw [h]; rfl
theorem ok_2 (a0_1 : Int) (a0_2 : Int) (l0_3 : List (List (S79))) (l0_4 : List ByteArray) (l0_5 : List Int) (l0_6 : List (S43)) (a0_7 : Int) (a0_8 : Int) (a0_9 : Int) (a0_10 : Int) (a0_11 : Int) : okB 2 a0_1 a0_2 l0_3 l0_4 l0_5 l0_6 a0_7 a0_8 a0_9 a0_10 a0_11 = (!(a0_2 != 0) && (!(a0_11 != 0) && (!(a0_10 != 0) && (!(decide (0 < l0_4.length)) && (!(decide (0 < l0_6.length)) && (!(decide (0 < l0_5.length)) && (!(!a0_7 == 0 || (!a0_8 == 0 || !a0_9 == 0)) && (!((l0_3.length : Int) != 1) && (listsR l0_4 l0_5 l0_6))))))))) := by
 unfold okB specB
 rw [show fieldsT 2 = (false, true, false, false, false, false, false, false) from rfl, own_2, ← listsR_eq]
 unfold spareB
 simp only [List.zip_cons_cons, List.zip_nil_left, List.any_cons, List.any_nil, Bool.or_false, Bool.not_false, Bool.not_true, Bool.and_true, Bool.and_false, Bool.false_or, rmay_eq, rcol_eq]
 generalize (listsR l0_4 l0_5 l0_6) = z
 rw [show ((l0_3.length : Int) != 1) = !((l0_3.length : Int) == 1) from rfl]
 generalize ((l0_3.length : Int) == 1) = e1
 try generalize (a0_2 != 0) = g0
 try generalize (decide (0 < l0_3.length)) = g1
 try generalize (decide (0 < l0_4.length)) = g2
 try generalize (decide (0 < l0_5.length)) = g3
 try generalize (decide (0 < l0_6.length)) = g4
 try generalize (!a0_7 == 0 || (!a0_8 == 0 || !a0_9 == 0)) = g5
 try generalize (a0_10 != 0) = g6
 try generalize (a0_11 != 0) = g7
 (try cases z) <;> (try cases e1) <;> (try cases g0) <;> (try cases g1) <;> (try cases g2) <;> (try cases g3) <;> (try cases g4) <;> (try cases g5) <;> (try cases g6) <;> (try cases g7) <;> rfl
theorem own_3 (a0_1 : Int) (a0_2 : Int) (l0_3 : List (List (S79))) (l0_4 : List ByteArray) (l0_5 : List Int) (l0_6 : List (S43)) (a0_7 : Int) (a0_8 : Int) (a0_9 : Int) (a0_10 : Int) (a0_11 : Int) : ownB 3 a0_1 a0_2 l0_3 l0_4 l0_5 l0_6 a0_7 a0_8 a0_9 a0_10 a0_11 = (if (l0_3.length : Int) > 0 then ((l0_4.length : Int) == (l0_3.length : Int)) else false) := by
 unfold ownB
 have h : plan_own.f 1 3 a0_1 a0_2 l0_3 l0_4 l0_5 l0_6 a0_7 a0_8 a0_9 a0_10 a0_11 = some (if (l0_3.length : Int) > 0 then ((l0_4.length : Int) == (l0_3.length : Int)) else false) := by
  simp only [plan_own.f, plan_own.j0, window_Check.f, colB_f, Option.bind_some, win_own, win_own2]
  simp
  repeat' first | rfl | (simp [*]; done) | split
 rw [h]; rfl
theorem ok_3 (a0_1 : Int) (a0_2 : Int) (l0_3 : List (List (S79))) (l0_4 : List ByteArray) (l0_5 : List Int) (l0_6 : List (S43)) (a0_7 : Int) (a0_8 : Int) (a0_9 : Int) (a0_10 : Int) (a0_11 : Int) : okB 3 a0_1 a0_2 l0_3 l0_4 l0_5 l0_6 a0_7 a0_8 a0_9 a0_10 a0_11 = (!(a0_2 != 0) && (!(a0_11 != 0) && (!(a0_10 != 0) && (!(decide (0 < l0_6.length)) && (!(decide (0 < l0_5.length)) && (!(!a0_7 == 0 || (!a0_8 == 0 || !a0_9 == 0)) && (!((l0_3.length : Int) == 0) && (!((l0_3.length : Int) != (l0_4.length : Int)) && (listsR l0_4 l0_5 l0_6))))))))) := by
 unfold okB specB
 rw [show fieldsT 3 = (false, true, true, false, false, false, false, false) from rfl, own_3, ← listsR_eq]
 unfold spareB
 simp only [List.zip_cons_cons, List.zip_nil_left, List.any_cons, List.any_nil, Bool.or_false, Bool.not_false, Bool.not_true, Bool.and_true, Bool.and_false, Bool.false_or, rmay_eq, rcol_eq]
 generalize (listsR l0_4 l0_5 l0_6) = z
 have e2 : (if (l0_3.length : Int) > 0 then ((l0_4.length : Int) == (l0_3.length : Int)) else false) = (!((l0_3.length : Int) == 0) && !((l0_3.length : Int) != (l0_4.length : Int))) := by
  by_cases q : (l0_3.length : Int) > 0
  ·rw [if_pos q, show ((l0_3.length : Int) == 0) = false from beq_eq_false_iff_ne.2 (by omega)]
   by_cases q2 : (l0_3.length : Int) = (l0_4.length : Int)
   ·rw [q2]; simp
   ·rw [show ((l0_4.length : Int) == (l0_3.length : Int)) = false from beq_eq_false_iff_ne.2 (fun h => q2 h.symm), show ((l0_3.length : Int) != (l0_4.length : Int)) = true from bne_iff_ne.2 q2]; rfl
  ·rw [if_neg q, show ((l0_3.length : Int) == 0) = true from beq_iff_eq.2 (by omega)]; rfl
 rw [e2]
 generalize ((l0_3.length : Int) == 0) = e3
 generalize ((l0_3.length : Int) != (l0_4.length : Int)) = e4
 try generalize (a0_2 != 0) = g0
 try generalize (decide (0 < l0_3.length)) = g1
 try generalize (decide (0 < l0_4.length)) = g2
 try generalize (decide (0 < l0_5.length)) = g3
 try generalize (decide (0 < l0_6.length)) = g4
 try generalize (!a0_7 == 0 || (!a0_8 == 0 || !a0_9 == 0)) = g5
 try generalize (a0_10 != 0) = g6
 try generalize (a0_11 != 0) = g7
 (try cases z) <;> (try cases e3) <;> (try cases e4) <;> (try cases g0) <;> (try cases g1) <;> (try cases g2) <;> (try cases g3) <;> (try cases g4) <;> (try cases g5) <;> (try cases g6) <;> (try cases g7) <;> rfl
theorem own_4 (a0_1 : Int) (a0_2 : Int) (l0_3 : List (List (S79))) (l0_4 : List ByteArray) (l0_5 : List Int) (l0_6 : List (S43)) (a0_7 : Int) (a0_8 : Int) (a0_9 : Int) (a0_10 : Int) (a0_11 : Int) : ownB 4 a0_1 a0_2 l0_3 l0_4 l0_5 l0_6 a0_7 a0_8 a0_9 a0_10 a0_11 = true := by
 unfold ownB
 have h : plan_own.f 1 4 a0_1 a0_2 l0_3 l0_4 l0_5 l0_6 a0_7 a0_8 a0_9 a0_10 a0_11 = some true := by
  simp only [plan_own.f, plan_own.j0, window_Check.f, colB_f, Option.bind_some, win_own, win_own2]
  simp
 rw [h]; rfl
theorem ok_4 (a0_1 : Int) (a0_2 : Int) (l0_3 : List (List (S79))) (l0_4 : List ByteArray) (l0_5 : List Int) (l0_6 : List (S43)) (a0_7 : Int) (a0_8 : Int) (a0_9 : Int) (a0_10 : Int) (a0_11 : Int) : okB 4 a0_1 a0_2 l0_3 l0_4 l0_5 l0_6 a0_7 a0_8 a0_9 a0_10 a0_11 = (!(a0_11 != 0) && (!(a0_10 != 0) && (!(decide (0 < l0_4.length)) && (!(decide (0 < l0_6.length)) && (!(decide (0 < l0_5.length)) && (!(!a0_7 == 0 || (!a0_8 == 0 || !a0_9 == 0)) && (!(decide (0 < l0_3.length)) && (listsR l0_4 l0_5 l0_6)))))))) := by
 unfold okB specB
 rw [show fieldsT 4 = (true, false, false, false, false, false, false, false) from rfl, own_4, ← listsR_eq]
 unfold spareB
 simp only [List.zip_cons_cons, List.zip_nil_left, List.any_cons, List.any_nil, Bool.or_false, Bool.not_false, Bool.not_true, Bool.and_true, Bool.and_false, Bool.false_or, rmay_eq, rcol_eq]
 generalize (listsR l0_4 l0_5 l0_6) = z
 try generalize (a0_2 != 0) = g0
 try generalize (decide (0 < l0_3.length)) = g1
 try generalize (decide (0 < l0_4.length)) = g2
 try generalize (decide (0 < l0_5.length)) = g3
 try generalize (decide (0 < l0_6.length)) = g4
 try generalize (!a0_7 == 0 || (!a0_8 == 0 || !a0_9 == 0)) = g5
 try generalize (a0_10 != 0) = g6
 try generalize (a0_11 != 0) = g7
 (try cases z) <;> (try cases g0) <;> (try cases g1) <;> (try cases g2) <;> (try cases g3) <;> (try cases g4) <;> (try cases g5) <;> (try cases g6) <;> (try cases g7) <;> rfl
theorem own_5 (a0_1 : Int) (a0_2 : Int) (l0_3 : List (List (S79))) (l0_4 : List ByteArray) (l0_5 : List Int) (l0_6 : List (S43)) (a0_7 : Int) (a0_8 : Int) (a0_9 : Int) (a0_10 : Int) (a0_11 : Int) : ownB 5 a0_1 a0_2 l0_3 l0_4 l0_5 l0_6 a0_7 a0_8 a0_9 a0_10 a0_11 = ((l0_3.length : Int) == 1) := by
 unfold ownB
 have h : plan_own.f 1 5 a0_1 a0_2 l0_3 l0_4 l0_5 l0_6 a0_7 a0_8 a0_9 a0_10 a0_11 = some ((l0_3.length : Int) == 1) := by
  simp only [plan_own.f, plan_own.j0, window_Check.f, colB_f, Option.bind_some, win_own, win_own2]
  simp
 rw [h]; rfl
theorem ok_5 (a0_1 : Int) (a0_2 : Int) (l0_3 : List (List (S79))) (l0_4 : List ByteArray) (l0_5 : List Int) (l0_6 : List (S43)) (a0_7 : Int) (a0_8 : Int) (a0_9 : Int) (a0_10 : Int) (a0_11 : Int) : okB 5 a0_1 a0_2 l0_3 l0_4 l0_5 l0_6 a0_7 a0_8 a0_9 a0_10 a0_11 = (!(a0_11 != 0) && (!(a0_10 != 0) && (!(decide (0 < l0_4.length)) && (!(decide (0 < l0_6.length)) && (!(decide (0 < l0_5.length)) && (!(!a0_7 == 0 || (!a0_8 == 0 || !a0_9 == 0)) && (!((l0_3.length : Int) != 1) && (listsR l0_4 l0_5 l0_6)))))))) := by
 unfold okB specB
 rw [show fieldsT 5 = (true, true, false, false, false, false, false, false) from rfl, own_5, ← listsR_eq]
 unfold spareB
 simp only [List.zip_cons_cons, List.zip_nil_left, List.any_cons, List.any_nil, Bool.or_false, Bool.not_false, Bool.not_true, Bool.and_true, Bool.and_false, Bool.false_or, rmay_eq, rcol_eq]
 generalize (listsR l0_4 l0_5 l0_6) = z
 rw [show ((l0_3.length : Int) != 1) = !((l0_3.length : Int) == 1) from rfl]
 generalize ((l0_3.length : Int) == 1) = e1
 try generalize (a0_2 != 0) = g0
 try generalize (decide (0 < l0_3.length)) = g1
 try generalize (decide (0 < l0_4.length)) = g2
 try generalize (decide (0 < l0_5.length)) = g3
 try generalize (decide (0 < l0_6.length)) = g4
 try generalize (!a0_7 == 0 || (!a0_8 == 0 || !a0_9 == 0)) = g5
 try generalize (a0_10 != 0) = g6
 try generalize (a0_11 != 0) = g7
 (try cases z) <;> (try cases e1) <;> (try cases g0) <;> (try cases g1) <;> (try cases g2) <;> (try cases g3) <;> (try cases g4) <;> (try cases g5) <;> (try cases g6) <;> (try cases g7) <;> rfl
theorem own_6 (a0_1 : Int) (a0_2 : Int) (l0_3 : List (List (S79))) (l0_4 : List ByteArray) (l0_5 : List Int) (l0_6 : List (S43)) (a0_7 : Int) (a0_8 : Int) (a0_9 : Int) (a0_10 : Int) (a0_11 : Int) : ownB 6 a0_1 a0_2 l0_3 l0_4 l0_5 l0_6 a0_7 a0_8 a0_9 a0_10 a0_11 = ((l0_3.length : Int) == 1) := by
 unfold ownB
 have h : plan_own.f 1 6 a0_1 a0_2 l0_3 l0_4 l0_5 l0_6 a0_7 a0_8 a0_9 a0_10 a0_11 = some ((l0_3.length : Int) == 1) := by
  simp only [plan_own.f, plan_own.j0, window_Check.f, colB_f, Option.bind_some, win_own, win_own2]
  simp
 rw [h]; rfl
theorem ok_6 (a0_1 : Int) (a0_2 : Int) (l0_3 : List (List (S79))) (l0_4 : List ByteArray) (l0_5 : List Int) (l0_6 : List (S43)) (a0_7 : Int) (a0_8 : Int) (a0_9 : Int) (a0_10 : Int) (a0_11 : Int) : okB 6 a0_1 a0_2 l0_3 l0_4 l0_5 l0_6 a0_7 a0_8 a0_9 a0_10 a0_11 = (!(a0_11 != 0) && (!(a0_10 != 0) && (!(decide (0 < l0_4.length)) && (!(decide (0 < l0_6.length)) && (!(decide (0 < l0_5.length)) && (!(!a0_7 == 0 || (!a0_8 == 0 || !a0_9 == 0)) && (!((l0_3.length : Int) != 1) && (listsR l0_4 l0_5 l0_6)))))))) := by
 unfold okB specB
 rw [show fieldsT 6 = (true, true, false, false, false, false, false, false) from rfl, own_6, ← listsR_eq]
 unfold spareB
 simp only [List.zip_cons_cons, List.zip_nil_left, List.any_cons, List.any_nil, Bool.or_false, Bool.not_false, Bool.not_true, Bool.and_true, Bool.and_false, Bool.false_or, rmay_eq, rcol_eq]
 generalize (listsR l0_4 l0_5 l0_6) = z
 rw [show ((l0_3.length : Int) != 1) = !((l0_3.length : Int) == 1) from rfl]
 generalize ((l0_3.length : Int) == 1) = e1
 try generalize (a0_2 != 0) = g0
 try generalize (decide (0 < l0_3.length)) = g1
 try generalize (decide (0 < l0_4.length)) = g2
 try generalize (decide (0 < l0_5.length)) = g3
 try generalize (decide (0 < l0_6.length)) = g4
 try generalize (!a0_7 == 0 || (!a0_8 == 0 || !a0_9 == 0)) = g5
 try generalize (a0_10 != 0) = g6
 try generalize (a0_11 != 0) = g7
 (try cases z) <;> (try cases e1) <;> (try cases g0) <;> (try cases g1) <;> (try cases g2) <;> (try cases g3) <;> (try cases g4) <;> (try cases g5) <;> (try cases g6) <;> (try cases g7) <;> rfl
theorem own_7 (a0_1 : Int) (a0_2 : Int) (l0_3 : List (List (S79))) (l0_4 : List ByteArray) (l0_5 : List Int) (l0_6 : List (S43)) (a0_7 : Int) (a0_8 : Int) (a0_9 : Int) (a0_10 : Int) (a0_11 : Int) : ownB 7 a0_1 a0_2 l0_3 l0_4 l0_5 l0_6 a0_7 a0_8 a0_9 a0_10 a0_11 = (if a0_10 ≥ 1 then decide (a0_10 ≤ 1099511627776) else false) := by
 unfold ownB
 have h : plan_own.f 1 7 a0_1 a0_2 l0_3 l0_4 l0_5 l0_6 a0_7 a0_8 a0_9 a0_10 a0_11 = some (if a0_10 ≥ 1 then decide (a0_10 ≤ 1099511627776) else false) := by
  simp only [plan_own.f, plan_own.j0, window_Check.f, colB_f, Option.bind_some, win_own, win_own2]
  simp
  repeat' first | rfl | (simp [*]; done) | split
 rw [h]; rfl
theorem ok_7 (a0_1 : Int) (a0_2 : Int) (l0_3 : List (List (S79))) (l0_4 : List ByteArray) (l0_5 : List Int) (l0_6 : List (S43)) (a0_7 : Int) (a0_8 : Int) (a0_9 : Int) (a0_10 : Int) (a0_11 : Int) : okB 7 a0_1 a0_2 l0_3 l0_4 l0_5 l0_6 a0_7 a0_8 a0_9 a0_10 a0_11 = (!(a0_2 != 0) && (!(a0_11 != 0) && (!(decide (0 < l0_4.length)) && (!(decide (0 < l0_6.length)) && (!(decide (0 < l0_5.length)) && (!(!a0_7 == 0 || (!a0_8 == 0 || !a0_9 == 0)) && (!(decide (0 < l0_3.length)) && (!(decide (a0_10 < 1)) && (!(decide (a0_10 > 1099511627776)) && (listsR l0_4 l0_5 l0_6)))))))))) := by
 unfold okB specB
 rw [show fieldsT 7 = (false, false, false, false, false, false, true, false) from rfl, own_7, ← listsR_eq]
 unfold spareB
 simp only [List.zip_cons_cons, List.zip_nil_left, List.any_cons, List.any_nil, Bool.or_false, Bool.not_false, Bool.not_true, Bool.and_true, Bool.and_false, Bool.false_or, rmay_eq, rcol_eq]
 generalize (listsR l0_4 l0_5 l0_6) = z
 have e2 : (if a0_10 ≥ 1 then decide (a0_10 ≤ 1099511627776) else false) = (!decide (a0_10 < 1) && !decide (a0_10 > 1099511627776)) := by
  by_cases q : a0_10 ≥ 1
  ·by_cases q2 : a0_10 ≤ 1099511627776
   ·simp [q, q2, show ¬ a0_10 < 1 from by omega, show ¬ 1099511627776 < a0_10 from by omega]
   ·simp [q, q2, show ¬ a0_10 < 1 from by omega, show 1099511627776 < a0_10 from by omega]
  ·simp [q, show a0_10 < 1 from by omega]
 rw [e2]
 generalize (decide (a0_10 < 1)) = e3
 generalize (decide (a0_10 > 1099511627776)) = e4
 try generalize (a0_2 != 0) = g0
 try generalize (decide (0 < l0_3.length)) = g1
 try generalize (decide (0 < l0_4.length)) = g2
 try generalize (decide (0 < l0_5.length)) = g3
 try generalize (decide (0 < l0_6.length)) = g4
 try generalize (!a0_7 == 0 || (!a0_8 == 0 || !a0_9 == 0)) = g5
 try generalize (a0_10 != 0) = g6
 try generalize (a0_11 != 0) = g7
 (try cases z) <;> (try cases e3) <;> (try cases e4) <;> (try cases g0) <;> (try cases g1) <;> (try cases g2) <;> (try cases g3) <;> (try cases g4) <;> (try cases g5) <;> (try cases g6) <;> (try cases g7) <;> rfl
theorem own_8 (a0_1 : Int) (a0_2 : Int) (l0_3 : List (List (S79))) (l0_4 : List ByteArray) (l0_5 : List Int) (l0_6 : List (S43)) (a0_7 : Int) (a0_8 : Int) (a0_9 : Int) (a0_10 : Int) (a0_11 : Int) : ownB 8 a0_1 a0_2 l0_3 l0_4 l0_5 l0_6 a0_7 a0_8 a0_9 a0_10 a0_11 = (chkS a0_7 a0_8 a0_9) := by
 unfold ownB
 have h : plan_own.f 1 8 a0_1 a0_2 l0_3 l0_4 l0_5 l0_6 a0_7 a0_8 a0_9 a0_10 a0_11 = some (chkS a0_7 a0_8 a0_9) := by
  simp only [plan_own.f, plan_own.j0, window_Check.f, colB_f, Option.bind_some, win_own, win_own2]
  simp
 rw [h]; rfl
theorem ok_8 (a0_1 : Int) (a0_2 : Int) (l0_3 : List (List (S79))) (l0_4 : List ByteArray) (l0_5 : List Int) (l0_6 : List (S43)) (a0_7 : Int) (a0_8 : Int) (a0_9 : Int) (a0_10 : Int) (a0_11 : Int) : okB 8 a0_1 a0_2 l0_3 l0_4 l0_5 l0_6 a0_7 a0_8 a0_9 a0_10 a0_11 = (!(a0_2 != 0) && (!(a0_11 != 0) && (!(a0_10 != 0) && (!(decide (0 < l0_4.length)) && (!(decide (0 < l0_3.length)) && (!(!rmayB a0_7 a0_8 a0_9) && (listsR l0_4 l0_5 l0_6))))))) := by
 unfold okB specB
 rw [show fieldsT 8 = (false, false, false, true, true, true, false, false) from rfl, own_8, ← listsR_eq]
 unfold spareB
 simp only [List.zip_cons_cons, List.zip_nil_left, List.any_cons, List.any_nil, Bool.or_false, Bool.not_false, Bool.not_true, Bool.and_true, Bool.and_false, Bool.false_or, rmay_eq, rcol_eq]
 generalize (listsR l0_4 l0_5 l0_6) = z
 generalize chkS a0_7 a0_8 a0_9 = e6
 try generalize (a0_2 != 0) = g0
 try generalize (decide (0 < l0_3.length)) = g1
 try generalize (decide (0 < l0_4.length)) = g2
 try generalize (decide (0 < l0_5.length)) = g3
 try generalize (decide (0 < l0_6.length)) = g4
 try generalize (!a0_7 == 0 || (!a0_8 == 0 || !a0_9 == 0)) = g5
 try generalize (a0_10 != 0) = g6
 try generalize (a0_11 != 0) = g7
 (try cases z) <;> (try cases e6) <;> (try cases g0) <;> (try cases g1) <;> (try cases g2) <;> (try cases g3) <;> (try cases g4) <;> (try cases g5) <;> (try cases g6) <;> (try cases g7) <;> rfl
theorem own_9 (a0_1 : Int) (a0_2 : Int) (l0_3 : List (List (S79))) (l0_4 : List ByteArray) (l0_5 : List Int) (l0_6 : List (S43)) (a0_7 : Int) (a0_8 : Int) (a0_9 : Int) (a0_10 : Int) (a0_11 : Int) : ownB 9 a0_1 a0_2 l0_3 l0_4 l0_5 l0_6 a0_7 a0_8 a0_9 a0_10 a0_11 = (if chkS a0_7 a0_8 a0_9 = true then (if a0_10 ≥ 1 then (if a0_10 ≤ 64 then colB a0_11 else false) else false) else false) := by
 unfold ownB
 have h : plan_own.f 1 9 a0_1 a0_2 l0_3 l0_4 l0_5 l0_6 a0_7 a0_8 a0_9 a0_10 a0_11 = some (if chkS a0_7 a0_8 a0_9 = true then (if a0_10 ≥ 1 then (if a0_10 ≤ 64 then colB a0_11 else false) else false) else false) := by
  simp only [plan_own.f, plan_own.j0, window_Check.f, colB_f, Option.bind_some, win_own, win_own2]
  simp
  repeat' first | rfl | (simp [*]; done) | split
 rw [h]; rfl
theorem ok_9 (a0_1 : Int) (a0_2 : Int) (l0_3 : List (List (S79))) (l0_4 : List ByteArray) (l0_5 : List Int) (l0_6 : List (S43)) (a0_7 : Int) (a0_8 : Int) (a0_9 : Int) (a0_10 : Int) (a0_11 : Int) : okB 9 a0_1 a0_2 l0_3 l0_4 l0_5 l0_6 a0_7 a0_8 a0_9 a0_10 a0_11 = (!(a0_2 != 0) && (!(decide (0 < l0_4.length)) && (!(decide (0 < l0_6.length)) && (!(decide (0 < l0_3.length)) && (!(decide (a0_10 < 1)) && (!(decide (a0_10 > 64)) && (!(!rcolB a0_11) && (!(!rmayB a0_7 a0_8 a0_9) && (listsR l0_4 l0_5 l0_6))))))))) := by
 unfold okB specB
 rw [show fieldsT 9 = (false, false, false, true, false, true, true, true) from rfl, own_9, ← listsR_eq]
 unfold spareB
 simp only [List.zip_cons_cons, List.zip_nil_left, List.any_cons, List.any_nil, Bool.or_false, Bool.not_false, Bool.not_true, Bool.and_true, Bool.and_false, Bool.false_or, rmay_eq, rcol_eq]
 generalize (listsR l0_4 l0_5 l0_6) = z
 have e2 : (if chkS a0_7 a0_8 a0_9 = true then (if a0_10 ≥ 1 then (if a0_10 ≤ 64 then colB a0_11 else false) else false) else false) = (!decide (a0_10 < 1) && (!decide (a0_10 > 64) && (colB a0_11 && chkS a0_7 a0_8 a0_9))) := by
  by_cases q : a0_10 ≥ 1
  ·by_cases q2 : a0_10 ≤ 64
   ·cases chkS a0_7 a0_8 a0_9 <;> simp [q, q2, show ¬ a0_10 < 1 from by omega, show ¬ 64 < a0_10 from by omega]
   ·cases chkS a0_7 a0_8 a0_9 <;> simp [q, q2, show ¬ a0_10 < 1 from by omega, show 64 < a0_10 from by omega]
  ·cases chkS a0_7 a0_8 a0_9 <;> simp [q, show a0_10 < 1 from by omega]
 rw [e2]
 generalize (decide (a0_10 < 1)) = e3
 generalize (decide (a0_10 > 64)) = e4
 generalize colB a0_11 = e5
 generalize chkS a0_7 a0_8 a0_9 = e6
 try generalize (a0_2 != 0) = g0
 try generalize (decide (0 < l0_3.length)) = g1
 try generalize (decide (0 < l0_4.length)) = g2
 try generalize (decide (0 < l0_5.length)) = g3
 try generalize (decide (0 < l0_6.length)) = g4
 try generalize (!a0_7 == 0 || (!a0_8 == 0 || !a0_9 == 0)) = g5
 try generalize (a0_10 != 0) = g6
 try generalize (a0_11 != 0) = g7
 (try cases z) <;> (try cases e3) <;> (try cases e4) <;> (try cases e5) <;> (try cases e6) <;> (try cases g0) <;> (try cases g1) <;> (try cases g2) <;> (try cases g3) <;> (try cases g4) <;> (try cases g5) <;> (try cases g6) <;> (try cases g7) <;> rfl
theorem rfields_calls (a0_0 : Int) (a0_1 : Int) (a0_2 : Int) (A0_3 : Option Addr) (c0_3 : Nat) (l0_3 : List (List (S79))) (A0_4 : Option Addr) (c0_4 : Nat) (l0_4 : List ByteArray) (A0_5 : Option Addr) (c0_5 : Nat) (l0_5 : List Int) (A0_6 : Option Addr) (c0_6 : Nat) (l0_6 : List (S43)) (a0_7 : Int) (a0_8 : Int) (a0_9 : Int) (a0_10 : Int) (a0_11 : Int) (w : World) (hr0_3 : Kd.C (Kd.slice 79 k79) w A0_3 l0_3.length l0_3) (hc0_3 : l0_3.length ≤ c0_3) (hr0_4 : Kd.C Kd.string w A0_4 l0_4.length l0_4) (hc0_4 : l0_4.length ≤ c0_4) (hr0_5 : Kd.C (Kd.int .i64) w A0_5 l0_5.length l0_5) (hc0_5 : l0_5.length ≤ c0_5) (hr0_6 : Kd.C k43 w A0_6 l0_6.length l0_6) (hc0_6 : l0_6.length ≤ c0_6) (h1 : 1 ≤ a0_0) (h9 : a0_0 ≤ 9) (hl4 : l0_4.length ≤ 1000) (hl5 : l0_5.length ≤ 1000) (hl6 : l0_6.length ≤ 1000) :
  Calls Try.prog 31 #[.agg #[.int .i64 a0_0, .int .i64 a0_1, .int .i64 a0_2, .slice A0_3 l0_3.length c0_3, .slice A0_4 l0_4.length c0_4, .slice A0_5 l0_5.length c0_5, .slice A0_6 l0_6.length c0_6, .int .i64 a0_7, .int .i64 a0_8, .int .i64 a0_9, .int .i64 a0_10, .int .i64 a0_11]] w fun e w' => e = .returned (.bool (okB a0_0 a0_1 a0_2 l0_3 l0_4 l0_5 l0_6 a0_7 a0_8 a0_9 a0_10 a0_11)) ∧ Below w.heap.size w w' := by
 have hk : a0_0 = 1 ∨ a0_0 = 2 ∨ a0_0 = 3 ∨ a0_0 = 4 ∨ a0_0 = 5 ∨ a0_0 = 6 ∨ a0_0 = 7 ∨ a0_0 = 8 ∨ a0_0 = 9 := by omega
 rcases hk with rfl | rfl | rfl | rfl | rfl | rfl | rfl | rfl | rfl
 ·rw [ok_1]; exact fld1_calls a0_1 a0_2 A0_3 c0_3 l0_3 A0_4 c0_4 l0_4 A0_5 c0_5 l0_5 A0_6 c0_6 l0_6 a0_7 a0_8 a0_9 a0_10 a0_11 w hr0_3 hc0_3 hr0_4 hc0_4 hr0_5 hc0_5 hr0_6 hc0_6 hl4 hl5 hl6
 ·rw [ok_2]; exact fld2_calls a0_1 a0_2 A0_3 c0_3 l0_3 A0_4 c0_4 l0_4 A0_5 c0_5 l0_5 A0_6 c0_6 l0_6 a0_7 a0_8 a0_9 a0_10 a0_11 w hr0_3 hc0_3 hr0_4 hc0_4 hr0_5 hc0_5 hr0_6 hc0_6 hl4 hl5 hl6
 ·rw [ok_3]; exact fld3_calls a0_1 a0_2 A0_3 c0_3 l0_3 A0_4 c0_4 l0_4 A0_5 c0_5 l0_5 A0_6 c0_6 l0_6 a0_7 a0_8 a0_9 a0_10 a0_11 w hr0_3 hc0_3 hr0_4 hc0_4 hr0_5 hc0_5 hr0_6 hc0_6 hl4 hl5 hl6
 ·rw [ok_4]; exact fld4_calls a0_1 a0_2 A0_3 c0_3 l0_3 A0_4 c0_4 l0_4 A0_5 c0_5 l0_5 A0_6 c0_6 l0_6 a0_7 a0_8 a0_9 a0_10 a0_11 w hr0_3 hc0_3 hr0_4 hc0_4 hr0_5 hc0_5 hr0_6 hc0_6 hl4 hl5 hl6
 ·rw [ok_5]; exact fld5_calls a0_1 a0_2 A0_3 c0_3 l0_3 A0_4 c0_4 l0_4 A0_5 c0_5 l0_5 A0_6 c0_6 l0_6 a0_7 a0_8 a0_9 a0_10 a0_11 w hr0_3 hc0_3 hr0_4 hc0_4 hr0_5 hc0_5 hr0_6 hc0_6 hl4 hl5 hl6
 ·rw [ok_6]; exact fld6_calls a0_1 a0_2 A0_3 c0_3 l0_3 A0_4 c0_4 l0_4 A0_5 c0_5 l0_5 A0_6 c0_6 l0_6 a0_7 a0_8 a0_9 a0_10 a0_11 w hr0_3 hc0_3 hr0_4 hc0_4 hr0_5 hc0_5 hr0_6 hc0_6 hl4 hl5 hl6
 ·rw [ok_7]; exact fld7_calls a0_1 a0_2 A0_3 c0_3 l0_3 A0_4 c0_4 l0_4 A0_5 c0_5 l0_5 A0_6 c0_6 l0_6 a0_7 a0_8 a0_9 a0_10 a0_11 w hr0_3 hc0_3 hr0_4 hc0_4 hr0_5 hc0_5 hr0_6 hc0_6 hl4 hl5 hl6
 ·rw [ok_8]; exact fld8_calls a0_1 a0_2 A0_3 c0_3 l0_3 A0_4 c0_4 l0_4 A0_5 c0_5 l0_5 A0_6 c0_6 l0_6 a0_7 a0_8 a0_9 a0_10 a0_11 w hr0_3 hc0_3 hr0_4 hc0_4 hr0_5 hc0_5 hr0_6 hc0_6 hl4 hl5 hl6
 ·rw [ok_9]; exact fld9_calls a0_1 a0_2 A0_3 c0_3 l0_3 A0_4 c0_4 l0_4 A0_5 c0_5 l0_5 A0_6 c0_6 l0_6 a0_7 a0_8 a0_9 a0_10 a0_11 w hr0_3 hc0_3 hr0_4 hc0_4 hr0_5 hc0_5 hr0_6 hc0_6 hl4 hl5 hl6
def rescindref36_fields.f (a0_0 : Int) (a0_1 : Int) (a0_2 : Int) (l0_3 : List (List (S79))) (l0_4 : List ByteArray) (l0_5 : List Int) (l0_6 : List (S43)) (a0_7 : Int) (a0_8 : Int) (a0_9 : Int) (a0_10 : Int) (a0_11 : Int) : Option Bool := if 1 ≤ a0_0 ∧ a0_0 ≤ 9 ∧ l0_4.length ≤ 1000 ∧ l0_5.length ≤ 1000 ∧ l0_6.length ≤ 1000 then some (okB a0_0 a0_1 a0_2 l0_3 l0_4 l0_5 l0_6 a0_7 a0_8 a0_9 a0_10 a0_11) else none
theorem rescindref36_fields.calls (a0_0 : Int) (a0_1 : Int) (a0_2 : Int) (A0_3 : Option Addr) (c0_3 : Nat) (l0_3 : List (List (S79))) (A0_4 : Option Addr) (c0_4 : Nat) (l0_4 : List ByteArray) (A0_5 : Option Addr) (c0_5 : Nat) (l0_5 : List Int) (A0_6 : Option Addr) (c0_6 : Nat) (l0_6 : List (S43)) (a0_7 : Int) (a0_8 : Int) (a0_9 : Int) (a0_10 : Int) (a0_11 : Int) (r : Bool) (w : World) (hr0_3 : Kd.C (Kd.slice 79 k79) w A0_3 l0_3.length l0_3) (hc0_3 : l0_3.length ≤ c0_3) (hr0_4 : Kd.C Kd.string w A0_4 l0_4.length l0_4) (hc0_4 : l0_4.length ≤ c0_4) (hr0_5 : Kd.C (Kd.int .i64) w A0_5 l0_5.length l0_5) (hc0_5 : l0_5.length ≤ c0_5) (hr0_6 : Kd.C k43 w A0_6 l0_6.length l0_6) (hc0_6 : l0_6.length ≤ c0_6) (h : rescindref36_fields.f a0_0 a0_1 a0_2 l0_3 l0_4 l0_5 l0_6 a0_7 a0_8 a0_9 a0_10 a0_11 = some r) :
  Calls Try.prog 31 #[.agg #[.int .i64 a0_0, .int .i64 a0_1, .int .i64 a0_2, .slice A0_3 l0_3.length c0_3, .slice A0_4 l0_4.length c0_4, .slice A0_5 l0_5.length c0_5, .slice A0_6 l0_6.length c0_6, .int .i64 a0_7, .int .i64 a0_8, .int .i64 a0_9, .int .i64 a0_10, .int .i64 a0_11]] w fun e w' => e = .returned (.bool r) ∧ Below w.heap.size w w' := by
 unfold rescindref36_fields.f at h
 split at h
 ·rename_i hq
  obtain rfl := Option.some.inj h
  exact rfields_calls a0_0 a0_1 a0_2 A0_3 c0_3 l0_3 A0_4 c0_4 l0_4 A0_5 c0_5 l0_5 A0_6 c0_6 l0_6 a0_7 a0_8 a0_9 a0_10 a0_11 w hr0_3 hc0_3 hr0_4 hc0_4 hr0_5 hc0_5 hr0_6 hc0_6 hq.1 hq.2.1 hq.2.2.1 hq.2.2.2.1 hq.2.2.2.2
 ·simp at h
end Go.Proofs.Ytpidiibhgfjemaa.PLh
end
section
namespace Go.Proofs.Ytpidiibhgfjemaa.PLi
end Go.Proofs.Ytpidiibhgfjemaa.PLi
end
section
namespace Go.Proofs.Ytpidiibhgfjemaa.PLn
open Go.Proofs.Ytpidiibhgfjemaa.PLg Go.Proofs.Ytpidiibhgfjemaa.PLh Go.Proofs.Ytpidiibhgfjemaa.PLo Go.Proofs.Ytpidiibhgfjemaa.PLi
open Go.RowKit Go.Proofs.YtpidiibhgfjemaaW.PrintWords Go.Proofs.YtpidiibhgfjemaaW.PrintLast Go.Proofs.YtpidiibhgfjemaaW.PrintMore
attribute [local go_sem] max2_int min2_int max_two min_two max_three min_three max_four min_four
set_option linter.unusedVariables false
set_option linter.unusedSimpArgs false
end Go.Proofs.Ytpidiibhgfjemaa.PLn
end
section
namespace Go.Proofs.Ytpidiibhgfjemaa.PLn
open Go.Proofs.Ytpidiibhgfjemaa.PLg Go.Proofs.Ytpidiibhgfjemaa.PLh Go.Proofs.Ytpidiibhgfjemaa.PLo Go.Proofs.Ytpidiibhgfjemaa.PLi
open Go.RowKit Go.Proofs.YtpidiibhgfjemaaW.PrintWords Go.Proofs.YtpidiibhgfjemaaW.PrintLast Go.Proofs.YtpidiibhgfjemaaW.PrintMore
attribute [local go_sem] max2_int min2_int max_two min_two max_three min_three max_four min_four
set_option linter.unusedVariables false
set_option linter.unusedSimpArgs false
end Go.Proofs.Ytpidiibhgfjemaa.PLn
end
