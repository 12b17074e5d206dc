/- Texts of this claim, put together by a program: LgD, PLhx0, PLox0, PLox1, PLox, LgS, LgSp. -/
import Derived.Test.YtpidiibhgfjemaaB2
import Derived.Test.YtpidiibhgfjemaaProg
import Derived.Below
import Derived.Deep.Draws
import Derived.Deep.AppendLies
import Derived.Maps.AppendAt
import Derived.OwnWalk
import Derived.Laws.BytesArg
import Derived.Laws.MakeOwn
import Derived.Laws.OwnMore
import Derived.Deep.OwnRows
import Derived.Tactics
import Derived.Lib.ConvBytes
import Derived.Laws.Slices
import Derived.WalkKit
import Derived.KernelRfl
import Derived.RowKit3
import Derived.Deep.LoopGhost
import Derived.Deep.QuietTactic
import Derived.BigQuiet
import Derived.WideLaws
import Derived.Deep.DeepCutAuto
import Derived.Deep.CutBlock
import Derived.Deep.RegionHeld3
import Derived.Laws.Rows
import Derived.Lib.AppendStr
import Derived.ArgAppend
import Derived.Laws.IdiomCopy
import Derived.OrdersHeld
import Derived.Laws.BitsLemmas
import Derived.RowKit
section
namespace Go.Proofs.Ytpidiibhgfjemaa.PLh
open Go.Proofs.Ytpidiibhgfjemaa.PLg
open Go.RowKit Go.Proofs.YtpidiibhgfjemaaW.PrintWords Go.Proofs.YtpidiibhgfjemaaW.PrintLast Go.Proofs.YtpidiibhgfjemaaW.PrintMore
theorem lists1_calls (w : World) : Calls Try.prog 36 #[.func (.func 39) #[] #[]] w fun e w' => ∃ g, e = .returned (.func (.func 37) #[] #[.pointer (some ⟨g, 0, none⟩)]) ∧ Below w.heap.size w w' ∧ g < w'.heap.size ∧ w'.cell? ⟨g, 0, none⟩ = some (.func (.func 39) #[] #[]) := by
 have hmf : ∀ (fn : Fn) (first cap : Array Value) (w : World), (Instr.makeFunc fn first cap).run Try.prog w = .ok (.func fn first cap) w := fun _ _ _ _ => rfl
 go_enter Try.func36, Try.ntmps36
 go_wp2
 go_ret
 exact ⟨_, rfl, (Below.refl _ _).alloc (Nat.le_refl _) _, by simp, (blk_cell (blk_new w _) 0).trans rfl⟩
theorem join_below {B : Nat} {a v u w' : World} (h : Below B a v) (k : Below u.heap.size u w') (hv : u.os = v.os ∧ u.tape = v.tape ∧ u.output = v.output ∧ u.heap = v.heap) (hB : B ≤ v.heap.size) : Below B a w' := by
 obtain ⟨h1, h2, h3, h4⟩ := hv
 refine ⟨k.os.trans (h1.trans h.os), k.tape.trans (h2.trans h.tape), k.output.trans (h3.trans h.output), Nat.le_trans h.size (by rw [← h4]; exact k.size), fun i hi => ?_⟩
 rw [k.block i (by rw [h4]; omega), h4]
 exact h.block i hi
theorem has_str (A0 : Option Addr) (c0 : Nat) (l : List ByteArray) (g : Nat) (w : World) (hg : g < w.heap.size) (hc : w.cell? ⟨g, 0, none⟩ = some (.func (.func 39) #[] #[])) (hr0 : Kd.C Kd.string w A0 l.length l) (hl : l.length ≤ 1000) :
  Calls Try.prog 38 #[.slice A0 l.length c0, .func (.func 37) #[] #[.pointer (some ⟨g, 0, none⟩)]] w fun e w' => e = .returned (.bool (l.any fun s => !EvP.nameB s)) ∧ Below w.heap.size w w' := by
 have C := Lib.hid (ix_strc (fun s => !EvP.nameB s) 37 (.pointer (some ⟨g, 0, none⟩)) A0 c0 l w (fun x w1 _ hb => lists11_calls x g w1 ((hb.cell (p := ⟨g, 0, none⟩) hg).trans hc)) (fun args w => by rfl) hr0 hl)
 clear hr0 hl hc
 generalize (l.any fun s => !EvP.nameB s) = b at *
 go_enter Try.func38, Try.ntmps38
 go_wp2_with (go_at_call 54; ((with_reducible refine C.out.mono ?_); rintro e w' ⟨⟨r, rfl, hr⟩, hb⟩; have HRR := Lib.hid hr; clear hr))
 go_ret
 exact ⟨by rw [← HRR.out]; rfl, hb⟩
theorem has_int (A0 : Option Addr) (c0 : Nat) (l : List Int) (w : World) (hr0 : Kd.C (Kd.int .i64) w A0 l.length l) (hl : l.length ≤ 1000) :
  Calls Try.prog 27 #[.slice A0 l.length c0, .func (.func 40) #[] #[]] w fun e w' => e = .returned (.bool (l.any fun c => !colB c)) ∧ Below w.heap.size w w' := by
 have C := Lib.hid (ix_int (fun c => !colB c) 40 A0 c0 l w (fun x w1 _ hb => lists2_calls x w1) (fun args w => by rfl) hr0 hl)
 clear hr0 hl
 generalize (l.any fun c => !colB c) = b at *
 go_enter Try.func27, Try.ntmps27
 go_wp2_with (go_at_call 44; ((with_reducible refine C.out.mono ?_); rintro e w' ⟨⟨r, rfl, hr⟩, hb⟩; have HRR := Lib.hid hr; clear hr))
 go_ret
 exact ⟨by rw [← HRR.out]; rfl, hb⟩
theorem has_agg (A0 : Option Addr) (c0 : Nat) (l : List S43) (w : World) (hr0 : Kd.C k43 w A0 l.length l) (hl : l.length ≤ 1000) :
  Calls Try.prog 41 #[.slice A0 l.length c0, .func (.func 42) #[] #[]] w fun e w' => e = .returned (.bool (l.any fun x => !aggB x)) ∧ Below w.heap.size w w' := by
 have C := Lib.hid (ix_agg (fun x => !aggB x) 42 A0 c0 l w (fun x w1 _ hb => lists3_calls x w1) (fun args w => by rfl) hr0 hl)
 clear hr0 hl
 generalize (l.any fun x => !aggB x) = b at *
 go_enter Try.func41, Try.ntmps41
 go_wp2_with (go_at_call 55; ((with_reducible refine C.out.mono ?_); rintro e w' ⟨⟨r, rfl, hr⟩, hb⟩; have HRR := Lib.hid hr; clear hr))
 go_ret
 exact ⟨by rw [← HRR.out]; rfl, hb⟩
def listsB (l4 : List ByteArray) (l5 : List Int) (l6 : List S43) : Bool := !(l4.any fun s => !EvP.nameB s) && !(l5.any fun c => !colB c) && !(l6.any fun x => !aggB x)
def plan_lists.f (a0_0 : Int) (a0_1 : Int) (a0_2 : Int) (l0_3 : List (List (S79))) (l0_4 : List ByteArray) (l0_5 : List Int) (l0_6 : List (S43)) (a0_7 : Int) (a0_8 : Int) (a0_9 : Int) (a0_10 : Int) (a0_11 : Int) : Option Bool := if l0_4.length ≤ 1000 ∧ l0_5.length ≤ 1000 ∧ l0_6.length ≤ 1000 then some (listsB l0_4 l0_5 l0_6) else none
set_option maxHeartbeats 4000000 in
set_option maxRecDepth 100000 in
theorem plan_lists.calls (a0_0 : Int) (a0_1 : Int) (a0_2 : Int) (A0_3 : Option Addr) (c0_3 : Nat) (l0_3 : List (List (S79))) (A0_4 : Option Addr) (c0_4 : Nat) (l0_4 : List ByteArray) (A0_5 : Option Addr) (c0_5 : Nat) (l0_5 : List Int) (A0_6 : Option Addr) (c0_6 : Nat) (l0_6 : List (S43)) (a0_7 : Int) (a0_8 : Int) (a0_9 : Int) (a0_10 : Int) (a0_11 : Int) (r : Bool) (w : World) (hr0_3 : Kd.C (Kd.slice 79 k79) w A0_3 l0_3.length l0_3) (hc0_3 : l0_3.length ≤ c0_3) (hr0_4 : Kd.C Kd.string w A0_4 l0_4.length l0_4) (hc0_4 : l0_4.length ≤ c0_4) (hr0_5 : Kd.C (Kd.int .i64) w A0_5 l0_5.length l0_5) (hc0_5 : l0_5.length ≤ c0_5) (hr0_6 : Kd.C k43 w A0_6 l0_6.length l0_6) (hc0_6 : l0_6.length ≤ c0_6) (h : plan_lists.f a0_0 a0_1 a0_2 l0_3 l0_4 l0_5 l0_6 a0_7 a0_8 a0_9 a0_10 a0_11 = some r) :
  Calls Try.prog 26 #[.agg #[.int .i64 a0_0, .int .i64 a0_1, .int .i64 a0_2, .slice A0_3 l0_3.length c0_3, .slice A0_4 l0_4.length c0_4, .slice A0_5 l0_5.length c0_5, .slice A0_6 l0_6.length c0_6, .int .i64 a0_7, .int .i64 a0_8, .int .i64 a0_9, .int .i64 a0_10, .int .i64 a0_11]] w fun e w' => e = .returned (.bool r) ∧ Below w.heap.size w w' := by
 have hlen : l0_4.length ≤ 1000 ∧ l0_5.length ≤ 1000 ∧ l0_6.length ≤ 1000 := by
  unfold plan_lists.f at h
  split at h
  ·assumption
  ·simp at h
 unfold plan_lists.f at h
 rw [if_pos hlen] at h
 obtain rfl := Option.some.inj h
 clear h
 obtain ⟨n4, n5, n6⟩ := hlen
 unfold listsB
 have C1 := Lib.hid lists1_calls
 have C4 := Lib.hid (fun (g : Nat) (w1 : World) (hb : Below w.heap.size w w1) (hg : g < w1.heap.size) (hc : w1.cell? ⟨g, 0, none⟩ = some (.func (.func 39) #[] #[])) => has_str A0_4 c0_4 l0_4 g w1 hg hc (Kd.C_below hr0_4 hb) n4)
 have C5 := Lib.hid (fun (w1 : World) (hb : Below w.heap.size w w1) => has_int A0_5 c0_5 l0_5 w1 (Kd.C_below hr0_5 hb) n5)
 have C6 := Lib.hid (fun (w1 : World) (hb : Below w.heap.size w w1) => has_agg A0_6 c0_6 l0_6 w1 (Kd.C_below hr0_6 hb) n6)
 have HB := Lib.hid (Below.alloc (Below.refl w.heap.size w) (Nat.le_refl _) (.cells #[.int .i64 a0_0, .int .i64 a0_1, .int .i64 a0_2, .slice A0_3 l0_3.length c0_3, .slice A0_4 l0_4.length c0_4, .slice A0_5 l0_5.length c0_5, .slice A0_6 l0_6.length c0_6, .int .i64 a0_7, .int .i64 a0_8, .int .i64 a0_9, .int .i64 a0_10, .int .i64 a0_11] 40 (0, 0)))
 have z4 := Lib.hid ((blk_cell (blk_new w (.cells #[.int .i64 a0_0, .int .i64 a0_1, .int .i64 a0_2, .slice A0_3 l0_3.length c0_3, .slice A0_4 l0_4.length c0_4, .slice A0_5 l0_5.length c0_5, .slice A0_6 l0_6.length c0_6, .int .i64 a0_7, .int .i64 a0_8, .int .i64 a0_9, .int .i64 a0_10, .int .i64 a0_11] 40 (0, 0))) 4).trans rfl : (w.alloc (.cells #[.int .i64 a0_0, .int .i64 a0_1, .int .i64 a0_2, .slice A0_3 l0_3.length c0_3, .slice A0_4 l0_4.length c0_4, .slice A0_5 l0_5.length c0_5, .slice A0_6 l0_6.length c0_6, .int .i64 a0_7, .int .i64 a0_8, .int .i64 a0_9, .int .i64 a0_10, .int .i64 a0_11] 40 (0, 0))).cell? ⟨w.heap.size, 4, none⟩ = some (.slice A0_4 l0_4.length c0_4))
 have z5 := Lib.hid ((blk_cell (blk_new w (.cells #[.int .i64 a0_0, .int .i64 a0_1, .int .i64 a0_2, .slice A0_3 l0_3.length c0_3, .slice A0_4 l0_4.length c0_4, .slice A0_5 l0_5.length c0_5, .slice A0_6 l0_6.length c0_6, .int .i64 a0_7, .int .i64 a0_8, .int .i64 a0_9, .int .i64 a0_10, .int .i64 a0_11] 40 (0, 0))) 5).trans rfl : (w.alloc (.cells #[.int .i64 a0_0, .int .i64 a0_1, .int .i64 a0_2, .slice A0_3 l0_3.length c0_3, .slice A0_4 l0_4.length c0_4, .slice A0_5 l0_5.length c0_5, .slice A0_6 l0_6.length c0_6, .int .i64 a0_7, .int .i64 a0_8, .int .i64 a0_9, .int .i64 a0_10, .int .i64 a0_11] 40 (0, 0))).cell? ⟨w.heap.size, 5, none⟩ = some (.slice A0_5 l0_5.length c0_5))
 have z6 := Lib.hid ((blk_cell (blk_new w (.cells #[.int .i64 a0_0, .int .i64 a0_1, .int .i64 a0_2, .slice A0_3 l0_3.length c0_3, .slice A0_4 l0_4.length c0_4, .slice A0_5 l0_5.length c0_5, .slice A0_6 l0_6.length c0_6, .int .i64 a0_7, .int .i64 a0_8, .int .i64 a0_9, .int .i64 a0_10, .int .i64 a0_11] 40 (0, 0))) 6).trans rfl : (w.alloc (.cells #[.int .i64 a0_0, .int .i64 a0_1, .int .i64 a0_2, .slice A0_3 l0_3.length c0_3, .slice A0_4 l0_4.length c0_4, .slice A0_5 l0_5.length c0_5, .slice A0_6 l0_6.length c0_6, .int .i64 a0_7, .int .i64 a0_8, .int .i64 a0_9, .int .i64 a0_10, .int .i64 a0_11] 40 (0, 0))).cell? ⟨w.heap.size, 6, none⟩ = some (.slice A0_6 l0_6.length c0_6))
 have hu := Try.underlying40
 clear hr0_3 hc0_3 hr0_4 hc0_4 hr0_5 hc0_5 hr0_6 hc0_6 n4 n5 n6
 generalize hb4 : (l0_4.any fun s => !EvP.nameB s) = b4 at *
 generalize hb5 : (l0_5.any fun c => !colB c) = b5 at *
 generalize hb6 : (l0_6.any fun x => !aggB x) = b6 at *
 clear hb4 hb5 hb6
 go_enter Try.func26, Try.ntmps26
 go_wp2
 go_region_with (first
  | (go_at_call 36; (with_reducible refine (C1.out _).mono ?_); rintro e w1 ⟨g, rfl, hb1, hg1, hc1⟩; have H1 := Lib.hid (join_below HB.out hb1 ⟨rfl, rfl, rfl, rfl⟩ (by simp)); have y4 := (hb1.cell (p := ⟨w.heap.size, 4, none⟩) (by simp)).trans z4.out; have y5 := Lib.hid ((hb1.cell (p := ⟨w.heap.size, 5, none⟩) (by simp)).trans z5.out); have y6 := Lib.hid ((hb1.cell (p := ⟨w.heap.size, 6, none⟩) (by simp)).trans z6.out); have s1 := Lib.hid (show w.heap.size < w1.heap.size from Nat.lt_of_lt_of_le (by simp) hb1.size); clear hb1)
  | (go_at_call 38; (with_reducible refine (C4.out g _ ?hb ?hg ?hc).mono ?_); (case hb => exact H1.out); (case hg => exact hg1); (case hc => exact hc1); rintro e w2 ⟨rfl, hb2⟩; have H2 := Lib.hid (join_below H1.out hb2 ⟨rfl, rfl, rfl, rfl⟩ H1.out.size); have x5 := (hb2.cell (p := ⟨w.heap.size, 5, none⟩) s1.out).trans y5.out; have x6 := (hb2.cell (p := ⟨w.heap.size, 6, none⟩) s1.out).trans y6.out; have s2 := Lib.hid (show w.heap.size < w2.heap.size from Nat.lt_of_lt_of_le s1.out hb2.size); clear hb2))
 all_goals
  cases b4
  ·cases b5
   ·go_wp2_with (first
     | (go_at_call 27; (with_reducible refine (C5.out _ ?hb).mono ?_); (case hb => first | exact H2.out | exact pw_below_drewN H2.out _); rintro e w3 ⟨rfl, hb3⟩; have H3 := Lib.hid (join_below H2.out hb3 ⟨rfl, rfl, rfl, rfl⟩ H2.out.size); have v6 := (hb3.cell (p := ⟨w.heap.size, 6, none⟩) s2.out).trans x6; clear hb3)
     | (go_at_call 41; (with_reducible refine (C6.out _ ?hb).mono ?_); (case hb => first | exact H3.out | exact pw_below_drewN H3.out _); rintro e w4 ⟨rfl, hb4⟩; have H4 := Lib.hid (join_below H3.out hb4 ⟨rfl, rfl, rfl, rfl⟩ H3.out.size); clear hb4))
    go_ret
    exact ⟨by cases b6 <;> rfl, H4.out⟩
   ·go_wp2_with (go_at_call 27; (with_reducible refine (C5.out _ ?hb).mono ?_); (case hb => first | exact H2.out | exact pw_below_drewN H2.out _); rintro e w3 ⟨rfl, hb3⟩; have H3 := Lib.hid (join_below H2.out hb3 ⟨rfl, rfl, rfl, rfl⟩ H2.out.size); clear hb3)
    go_ret
    exact ⟨rfl, H3.out⟩
  ·go_wp2_with fail
   go_ret
   exact ⟨rfl, H2.out⟩
end Go.Proofs.Ytpidiibhgfjemaa.PLh
end
section
namespace Go.Proofs.Ytpidiibhgfjemaa.PLh
end Go.Proofs.Ytpidiibhgfjemaa.PLh
end
section
namespace Go.Proofs.Ytpidiibhgfjemaa.PLo
open Go.Proofs.Ytpidiibhgfjemaa.PLg Go.Proofs.Ytpidiibhgfjemaa.PLh
open Go.RowKit Go.Proofs.YtpidiibhgfjemaaW.PrintWords Go.Proofs.YtpidiibhgfjemaaW.PrintLast Go.Proofs.YtpidiibhgfjemaaW.PrintMore
attribute [local go_sem] max2_int min2_int max_two min_two max_three min_three max_four min_four
set_option linter.unusedVariables false
set_option linter.unusedSimpArgs false
end Go.Proofs.Ytpidiibhgfjemaa.PLo
end
section
namespace Go.Proofs.Ytpidiibhgfjemaa.PLo
open Go.Proofs.Ytpidiibhgfjemaa.PLg Go.Proofs.Ytpidiibhgfjemaa.PLh
open Go.RowKit Go.Proofs.YtpidiibhgfjemaaW.PrintWords Go.Proofs.YtpidiibhgfjemaaW.PrintLast Go.Proofs.YtpidiibhgfjemaaW.PrintMore
attribute [local go_sem] max2_int min2_int max_two min_two max_three min_three max_four min_four
set_option linter.unusedVariables false
set_option linter.unusedSimpArgs false
def plan_own.j0 : Nat → Int → Bool → Int → Int → Int → List (List (S79)) → List ByteArray → List Int → List (S43) → Int → Int → Int → Int → Int → Option (Bool)
 | 0, _, _, _, _, _, _, _, _, _, _, _, _, _, _ => none
 | k + 1, x4, x5, x369000, x369001, x369002, x369003, x369004, x369005, x369006, x369007, x369008, x369009, x369010, x369011 => if x5 = true then (some ((x369003.length : Int) == 1)) else (if x4 = 3 then (if (x369003.length : Int) > 0 then (some ((x369004.length : Int) == (x369003.length : Int))) else (some false)) else (if x4 = 7 then (if x369010 ≥ 1 then (some (decide (x369010 ≤ 1099511627776))) else (some false)) else (if x4 = 8 then ((window_Check.f x369007 x369008 x369009).bind fun t369 => (some (t369 == 0))) else (if x4 = 9 then ((window_Check.f x369007 x369008 x369009).bind fun t370 => (if t370 = 0 then (if x369010 ≥ 1 then (if x369010 ≤ 64 then ((plan_col.f x369011).bind fun t371 => (some t371)) else (some false)) else (some false)) else (some false))) else (some true)))))
def plan_own.f (k : Nat) (a0_0 : Int) (a0_1 : Int) (a0_2 : Int) (l0_3 : List (List (S79))) (l0_4 : List ByteArray) (l0_5 : List Int) (l0_6 : List (S43)) (a0_7 : Int) (a0_8 : Int) (a0_9 : Int) (a0_10 : Int) (a0_11 : Int) : Option (Bool) := if a0_0 = 2 then (plan_own.j0 k a0_0 (a0_0 == 2) a0_0 a0_1 a0_2 l0_3 l0_4 l0_5 l0_6 a0_7 a0_8 a0_9 a0_10 a0_11) else (if a0_0 = 5 then (plan_own.j0 k a0_0 (a0_0 == 5) a0_0 a0_1 a0_2 l0_3 l0_4 l0_5 l0_6 a0_7 a0_8 a0_9 a0_10 a0_11) else (plan_own.j0 k a0_0 (a0_0 == 6) a0_0 a0_1 a0_2 l0_3 l0_4 l0_5 l0_6 a0_7 a0_8 a0_9 a0_10 a0_11))
theorem plan_own.mono_l : ∀ k, (∀ y0 y1 y2 y3 y4 y5 y6 y7 y8 y9 y10 y11 y12 y13, LeO (plan_own.j0 k y0 y1 y2 y3 y4 y5 y6 y7 y8 y9 y10 y11 y12 y13) (plan_own.j0 (k + 1) y0 y1 y2 y3 y4 y5 y6 y7 y8 y9 y10 y11 y12 y13))
 | 0 => fun _ _ _ _ _ _ _ _ _ _ _ _ _ _ r h => by simp [plan_own.j0] at h
 | k + 1 => by
  have ih0 := plan_own.mono_l k
  ·intro y0 y1 y2 y3 y4 y5 y6 y7 y8 y9 y10 y11 y12 y13
   unfold plan_own.j0
   repeat' first
   | (with_reducible exact ih0 _ _ _ _ _ _ _ _ _ _ _ _ _ _)
   | (with_reducible exact LeO.refl _)
   | (with_reducible exact LeO.none _)
   | (with_reducible refine LeO.ite ?_ ?_)
   | (with_reducible refine LeO.bind ?_ (fun _ => ?_))
   | exact ih0 _ _ _ _ _ _ _ _ _ _ _ _ _ _
   | exact LeO.none _
   | refine LeO.ite ?_ ?_
   | refine LeO.bind ?_ (fun _ => ?_)
theorem plan_own.mono : ∀ a0 a1 a2 a3 a4 a5 a6 a7 a8 a9 a10 a11 k, LeO (plan_own.f k a0 a1 a2 a3 a4 a5 a6 a7 a8 a9 a10 a11) (plan_own.f (k + 1) a0 a1 a2 a3 a4 a5 a6 a7 a8 a9 a10 a11) := by
 intro a0 a1 a2 a3 a4 a5 a6 a7 a8 a9 a10 a11 k
 have ih0 := plan_own.mono_l k
 unfold plan_own.f
 repeat' first
   | (with_reducible exact ih0 _ _ _ _ _ _ _ _ _ _ _ _ _ _)
   | (with_reducible exact LeO.refl _)
   | (with_reducible exact LeO.none _)
   | (with_reducible refine LeO.ite ?_ ?_)
   | (with_reducible refine LeO.bind ?_ (fun _ => ?_))
   | exact ih0 _ _ _ _ _ _ _ _ _ _ _ _ _ _
   | exact LeO.none _
   | refine LeO.ite ?_ ?_
   | refine LeO.bind ?_ (fun _ => ?_)
set_option maxHeartbeats 8000000 in
set_option maxRecDepth 100000 in
theorem plan_own.calls (k : Nat) (a0_0 : Int) (a0_1 : Int) (a0_2 : Int) (A0_3 : Option Addr) (c0_3 : Nat) (l0_3 : List (List (S79))) (A0_4 : Option Addr) (c0_4 : Nat) (l0_4 : List ByteArray) (A0_5 : Option Addr) (c0_5 : Nat) (l0_5 : List Int) (A0_6 : Option Addr) (c0_6 : Nat) (l0_6 : List (S43)) (a0_7 : Int) (a0_8 : Int) (a0_9 : Int) (a0_10 : Int) (a0_11 : Int) (r : Bool) (w : World) (hr0_3 : Kd.C (Kd.slice 79 k79) w A0_3 l0_3.length l0_3) (hc0_3 : l0_3.length ≤ c0_3) (hr0_4 : Kd.C Kd.string w A0_4 l0_4.length l0_4) (hc0_4 : l0_4.length ≤ c0_4) (hr0_5 : Kd.C (Kd.int .i64) w A0_5 l0_5.length l0_5) (hc0_5 : l0_5.length ≤ c0_5) (hr0_6 : Kd.C k43 w A0_6 l0_6.length l0_6) (hc0_6 : l0_6.length ≤ c0_6) (h : plan_own.f k a0_0 a0_1 a0_2 l0_3 l0_4 l0_5 l0_6 a0_7 a0_8 a0_9 a0_10 a0_11 = some r) :
  Calls Try.prog 25 #[.agg #[.int .i64 a0_0, .int .i64 a0_1, .int .i64 a0_2, .slice A0_3 l0_3.length c0_3, .slice A0_4 l0_4.length c0_4, .slice A0_5 l0_5.length c0_5, .slice A0_6 l0_6.length c0_6, .int .i64 a0_7, .int .i64 a0_8, .int .i64 a0_9, .int .i64 a0_10, .int .i64 a0_11]] w fun e w' => e = .returned (.bool r) ∧ Below w.heap.size w w' := by
 have hu40 := Try.underlying40
 have hu34 := Try.underlying34
 have HR0_3 := Aside0.mk hr0_3
 have HC0_3 := Aside0.mk hc0_3
 clear hr0_3 hc0_3
 have HR0_4 := Aside0.mk hr0_4
 have HC0_4 := Aside0.mk hc0_4
 clear hr0_4 hc0_4
 have HR0_5 := Aside0.mk hr0_5
 have HC0_5 := Aside0.mk hc0_5
 clear hr0_5 hc0_5
 have HR0_6 := Aside0.mk hr0_6
 have HC0_6 := Aside0.mk hc0_6
 clear hr0_6 hc0_6
 have HB := Aside0.mk (Below.refl w.heap.size w)
 have H : (if a0_0 = 2 then (plan_own.j0 k a0_0 (a0_0 == 2) a0_0 a0_1 a0_2 l0_3 l0_4 l0_5 l0_6 a0_7 a0_8 a0_9 a0_10 a0_11) else (if a0_0 = 5 then (plan_own.j0 k a0_0 (a0_0 == 5) a0_0 a0_1 a0_2 l0_3 l0_4 l0_5 l0_6 a0_7 a0_8 a0_9 a0_10 a0_11) else (plan_own.j0 k a0_0 (a0_0 == 6) a0_0 a0_1 a0_2 l0_3 l0_4 l0_5 l0_6 a0_7 a0_8 a0_9 a0_10 a0_11))) = some r := h
 clear h
 have HC2 := Aside0.mk H
 clear H
 go_enter Try.func25, Try.ntmps25
 go_upto_if 5 with (first | ((with_reducible refine gate_dst (N := 1) rfl ?_); (try (refine gate_guard (by rfl) ?_; dsimp only)); refine box_event ?hg (N := 1) ?hd (cs := #[.int .i64 a0_0, .int .i64 a0_1, .int .i64 a0_2, .slice A0_3 l0_3.length c0_3, .slice A0_4 l0_4.length c0_4, .slice A0_5 l0_5.length c0_5, .slice A0_6 l0_6.length c0_6, .int .i64 a0_7, .int .i64 a0_8, .int .i64 a0_9, .int .i64 a0_10, .int .i64 a0_11]) (t := 40) ?hr ?_; (case hd => rfl); (case hg => rfl); (case hr => first | (go_simp; done) | (go_simp; rfl)); intro gb368 hg w3 hbox hb; have n0_ := Aside0.mk (below_step (by repeat (first | (with_reducible first | exact HB.out | apply below_alloc | apply pw_below_drewN | apply below_drew1) | exact HB.out)) hb); have n1_ := Aside0.mk (hbox); have n2_ := Aside0.mk ((by rw [hg]; exact (below_size (by repeat (first | (with_reducible first | exact HB.out | apply below_alloc | apply pw_below_drewN | apply below_drew1) | exact HB.out))) : w.heap.size ≤ gb368)); have n3_ := Aside0.mk ((by rw [hg]; exact (below_size (by repeat (first | (with_reducible first | exact HB.out | apply below_alloc | apply pw_below_drewN | apply below_drew1) | exact HB.out))) : w.heap.size ≤ gb368)); clear HB; have HB := n0_; have BK368 := n1_; have GW368 := n2_; have GE368 := n3_; clear n0_ n1_ n2_ n3_; clear hb hbox hg; have hcz4_0 : w3.cell? ⟨gb368, 0, none⟩ = some (.int .i64 a0_0) := (blk_cell BK368.out 0).trans rfl; have hcz4_1 : w3.cell? ⟨gb368, 1, none⟩ = some (.int .i64 a0_1) := (blk_cell BK368.out 1).trans rfl; have hcz4_2 : w3.cell? ⟨gb368, 2, none⟩ = some (.int .i64 a0_2) := (blk_cell BK368.out 2).trans rfl; have hcz4_3 : w3.cell? ⟨gb368, 3, none⟩ = some (.slice A0_3 l0_3.length c0_3) := (blk_cell BK368.out 3).trans rfl; have hcz4_4 : w3.cell? ⟨gb368, 4, none⟩ = some (.slice A0_4 l0_4.length c0_4) := (blk_cell BK368.out 4).trans rfl; have hcz4_5 : w3.cell? ⟨gb368, 5, none⟩ = some (.slice A0_5 l0_5.length c0_5) := (blk_cell BK368.out 5).trans rfl; have hcz4_6 : w3.cell? ⟨gb368, 6, none⟩ = some (.slice A0_6 l0_6.length c0_6) := (blk_cell BK368.out 6).trans rfl; have hcz4_7 : w3.cell? ⟨gb368, 7, none⟩ = some (.int .i64 a0_7) := (blk_cell BK368.out 7).trans rfl; have hcz4_8 : w3.cell? ⟨gb368, 8, none⟩ = some (.int .i64 a0_8) := (blk_cell BK368.out 8).trans rfl; have hcz4_9 : w3.cell? ⟨gb368, 9, none⟩ = some (.int .i64 a0_9) := (blk_cell BK368.out 9).trans rfl; have hcz4_10 : w3.cell? ⟨gb368, 10, none⟩ = some (.int .i64 a0_10) := (blk_cell BK368.out 10).trans rfl; have hcz4_11 : w3.cell? ⟨gb368, 11, none⟩ = some (.int .i64 a0_11) := (blk_cell BK368.out 11).trans rfl; have hfz4_0 := blk_frozen BK368.out 0; have hfz4_1 := blk_frozen BK368.out 1; have hfz4_2 := blk_frozen BK368.out 2; have hfz4_3 := blk_frozen BK368.out 3; have hfz4_4 := blk_frozen BK368.out 4; have hfz4_5 := blk_frozen BK368.out 5; have hfz4_6 := blk_frozen BK368.out 6; have hfz4_7 := blk_frozen BK368.out 7; have hfz4_8 := blk_frozen BK368.out 8; have hfz4_9 := blk_frozen BK368.out 9; have hfz4_10 := blk_frozen BK368.out 10; have hfz4_11 := blk_frozen BK368.out 11))
 (try simp only [Act.put, List.setIfInBounds_toArray, List.set_cons_zero, List.set_cons_succ])
 go_cut [5] (fun v5 wc => ∃ (kq : Nat) (x5_1 : Bool), v5 = .bool x5_1 ∧ Aside0 (plan_own.j0 kq a0_0 x5_1 a0_0 a0_1 a0_2 l0_3 l0_4 l0_5 l0_6 a0_7 a0_8 a0_9 a0_10 a0_11 = some r) ∧ Aside0 (kq ≤ k) ∧ Aside0 (wc.heap[gb368]? = some (.cells #[.int .i64 a0_0, .int .i64 a0_1, .int .i64 a0_2, (.slice A0_3 l0_3.length c0_3), (.slice A0_4 l0_4.length c0_4), (.slice A0_5 l0_5.length c0_5), (.slice A0_6 l0_6.length c0_6), .int .i64 a0_7, .int .i64 a0_8, .int .i64 a0_9, .int .i64 a0_10, .int .i64 a0_11] 40 (0, 0))) ∧ Aside0 (Below w.heap.size w wc))
 case first =>
  have H := HC2.out
  clear HC2
  by_cases c5 : a0_0 = 2
  ·rw [if_pos c5] at H
   have c5b0 : (a0_0 == 2) = true := beq_iff_eq.mpr c5
   have c5b1 : (a0_0 != 2) = false := bne_eq_false_iff_eq.mpr c5
   clear c5
   (first | rw [c5b0] | (simp only [i64_w, i32_w]; rw [c5b0]) | skip)
   have H' := Aside0.mk H
   clear H
   go_wp2
   go_meet
   case rel => exact ⟨_, ((a0_0 == 2)), (by first | rfl | (simp; done) | (simp [*]; done)), H', ⟨by first | omega | exact Nat.le_refl _⟩, ⟨by (with_reducible repeat (first | refine blk_drewN ?_ _ | refine blk_drew ?_ | refine blk_alloc ?_ _)); exact BK368.out⟩, ⟨by repeat (first | (with_reducible first | exact HB.out | apply below_alloc | apply pw_below_drewN | apply below_drew1 | refine below_set ?_ GE368.out) | exact HB.out)⟩⟩
  ·rw [if_neg c5] at H
   have c5b0 : (a0_0 == 2) = false := beq_eq_false_iff_ne.mpr c5
   have c5b1 : (a0_0 != 2) = true := bne_iff_ne.mpr c5
   (first | rw [c5b0] | (simp only [i64_w, i32_w]; rw [c5b0]) | skip)
   by_cases c6 : a0_0 = 5
   ·rw [if_pos c6] at H
    have c6b0 : (a0_0 == 5) = true := beq_iff_eq.mpr c6
    have c6b1 : (a0_0 != 5) = false := bne_eq_false_iff_eq.mpr c6
    clear c6
    have H' := Aside0.mk H
    clear H
    go_wp2
    go_meet
    case rel => exact ⟨_, ((a0_0 == 5)), (by first | rfl | (simp; done) | (simp [*]; done)), H', ⟨by first | omega | exact Nat.le_refl _⟩, ⟨by (with_reducible repeat (first | refine blk_drewN ?_ _ | refine blk_drew ?_ | refine blk_alloc ?_ _)); exact BK368.out⟩, ⟨by repeat (first | (with_reducible first | exact HB.out | apply below_alloc | apply pw_below_drewN | apply below_drew1 | refine below_set ?_ GE368.out) | exact HB.out)⟩⟩
   ·rw [if_neg c6] at H
    have c6b0 : (a0_0 == 5) = false := beq_eq_false_iff_ne.mpr c6
    have c6b1 : (a0_0 != 5) = true := bne_iff_ne.mpr c6
    have H' := Aside0.mk H
    clear H
    go_wp2
    go_meet
    case rel => exact ⟨_, ((a0_0 == 6)), (by first | rfl | (simp; done) | (simp [*]; done)), H', ⟨by first | omega | exact Nat.le_refl _⟩, ⟨by (with_reducible repeat (first | refine blk_drewN ?_ _ | refine blk_drew ?_ | refine blk_alloc ?_ _)); exact BK368.out⟩, ⟨by repeat (first | (with_reducible first | exact HB.out | apply below_alloc | apply pw_below_drewN | apply below_drew1 | refine below_set ?_ GE368.out) | exact HB.out)⟩⟩
 case rest =>
  clear HC2
  try clear c2
  try clear p2
  try clear c5
  try clear c5b0
  try clear c5b1
  try clear c6
  try clear c6b0
  try clear c6b1
  try clear hcz4_0
  try clear hcz4_1
  try clear hcz4_10
  try clear hcz4_11
  try clear hcz4_2
  try clear hcz4_3
  try clear hcz4_4
  try clear hcz4_5
  try clear hcz4_6
  try clear hcz4_7
  try clear hcz4_8
  try clear hcz4_9
  try clear hfz4_0
  try clear hfz4_1
  try clear hfz4_10
  try clear hfz4_11
  try clear hfz4_2
  try clear hfz4_3
  try clear hfz4_4
  try clear hfz4_5
  try clear hfz4_6
  try clear hfz4_7
  try clear hfz4_8
  try clear hfz4_9
  obtain ⟨kq, x5_1, rfl, HA, HJ1, BK368, HB⟩ := hcut
  cases kq with
  | zero => exact absurd HA.out (by simp [plan_own.j0])
  | succ kj1 =>
   have H := HA.out
   clear HA
   simp only [plan_own.j0] at H
   by_cases c7 : x5_1 = true
   ·subst c7
    have H1 : (some ((l0_3.length : Int) == 1)) = some r := by rw [if_pos rfl] at H; exact H
    clear H
    have H := H1
    clear H1
    obtain rfl := Option.some.inj H
    have hcz8_0 : wc.cell? ⟨gb368, 0, none⟩ = some (.int .i64 a0_0) := (blk_cell BK368.out 0).trans rfl
    have hcz8_1 : wc.cell? ⟨gb368, 1, none⟩ = some (.int .i64 a0_1) := (blk_cell BK368.out 1).trans rfl
    have hcz8_2 : wc.cell? ⟨gb368, 2, none⟩ = some (.int .i64 a0_2) := (blk_cell BK368.out 2).trans rfl
    have hcz8_3 : wc.cell? ⟨gb368, 3, none⟩ = some (.slice A0_3 l0_3.length c0_3) := (blk_cell BK368.out 3).trans rfl
    have hcz8_4 : wc.cell? ⟨gb368, 4, none⟩ = some (.slice A0_4 l0_4.length c0_4) := (blk_cell BK368.out 4).trans rfl
    have hcz8_5 : wc.cell? ⟨gb368, 5, none⟩ = some (.slice A0_5 l0_5.length c0_5) := (blk_cell BK368.out 5).trans rfl
    have hcz8_6 : wc.cell? ⟨gb368, 6, none⟩ = some (.slice A0_6 l0_6.length c0_6) := (blk_cell BK368.out 6).trans rfl
    have hcz8_7 : wc.cell? ⟨gb368, 7, none⟩ = some (.int .i64 a0_7) := (blk_cell BK368.out 7).trans rfl
    have hcz8_8 : wc.cell? ⟨gb368, 8, none⟩ = some (.int .i64 a0_8) := (blk_cell BK368.out 8).trans rfl
    have hcz8_9 : wc.cell? ⟨gb368, 9, none⟩ = some (.int .i64 a0_9) := (blk_cell BK368.out 9).trans rfl
    have hcz8_10 : wc.cell? ⟨gb368, 10, none⟩ = some (.int .i64 a0_10) := (blk_cell BK368.out 10).trans rfl
    have hcz8_11 : wc.cell? ⟨gb368, 11, none⟩ = some (.int .i64 a0_11) := (blk_cell BK368.out 11).trans rfl
    have hfz8_0 := blk_frozen BK368.out 0
    have hfz8_1 := blk_frozen BK368.out 1
    have hfz8_2 := blk_frozen BK368.out 2
    have hfz8_3 := blk_frozen BK368.out 3
    have hfz8_4 := blk_frozen BK368.out 4
    have hfz8_5 := blk_frozen BK368.out 5
    have hfz8_6 := blk_frozen BK368.out 6
    have hfz8_7 := blk_frozen BK368.out 7
    have hfz8_8 := blk_frozen BK368.out 8
    have hfz8_9 := blk_frozen BK368.out 9
    have hfz8_10 := blk_frozen BK368.out 10
    have hfz8_11 := blk_frozen BK368.out 11
    go_wp2
    go_ret
    exact ⟨by first | rfl | (simp [errW_none, errW_some] <;> rfl) | (simp [*, errW_none, errW_some] <;> rfl), by repeat (first | (with_reducible first | exact HB.out | apply below_alloc | apply pw_below_drewN | apply below_drew1 | refine below_set ?_ GE368.out) | exact HB.out)⟩
   ·replace c7 := Bool.eq_false_iff.mpr c7
    subst c7
    have H1 : (if a0_0 = 3 then (if (l0_3.length : Int) > 0 then (some ((l0_4.length : Int) == (l0_3.length : Int))) else (some false)) else (if a0_0 = 7 then (if a0_10 ≥ 1 then (some (decide (a0_10 ≤ 1099511627776))) else (some false)) else (if a0_0 = 8 then ((window_Check.f a0_7 a0_8 a0_9).bind fun t369 => (some (t369 == 0))) else (if a0_0 = 9 then ((window_Check.f a0_7 a0_8 a0_9).bind fun t370 => (if t370 = 0 then (if a0_10 ≥ 1 then (if a0_10 ≤ 64 then ((plan_col.f a0_11).bind fun t371 => (some t371)) else (some false)) else (some false)) else (some false))) else (some true))))) = some r := by rw [if_neg (show ¬ (false = true) by decide)] at H; exact H
    clear H
    have H := H1
    clear H1
    by_cases c9 : a0_0 = 3
    ·rw [if_pos c9] at H
     have c9b0 : (a0_0 == 3) = true := beq_iff_eq.mpr c9
     have c9b1 : (a0_0 != 3) = false := bne_eq_false_iff_eq.mpr c9
     clear c9
     by_cases c10 : (l0_3.length : Int) > 0
     ·rw [if_pos c10] at H
      have c10b0 : decide (0 < (l0_3.length : Int)) = true := decide_eq_true c10
      have c10b1 : decide (0 < l0_3.length) = true := decide_eq_true (by omega)
      clear c10
      obtain rfl := Option.some.inj H
      have hcz11_0 : wc.cell? ⟨gb368, 0, none⟩ = some (.int .i64 a0_0) := (blk_cell BK368.out 0).trans rfl
      have hcz11_1 : wc.cell? ⟨gb368, 1, none⟩ = some (.int .i64 a0_1) := (blk_cell BK368.out 1).trans rfl
      have hcz11_2 : wc.cell? ⟨gb368, 2, none⟩ = some (.int .i64 a0_2) := (blk_cell BK368.out 2).trans rfl
      have hcz11_3 : wc.cell? ⟨gb368, 3, none⟩ = some (.slice A0_3 l0_3.length c0_3) := (blk_cell BK368.out 3).trans rfl
      have hcz11_4 : wc.cell? ⟨gb368, 4, none⟩ = some (.slice A0_4 l0_4.length c0_4) := (blk_cell BK368.out 4).trans rfl
      have hcz11_5 : wc.cell? ⟨gb368, 5, none⟩ = some (.slice A0_5 l0_5.length c0_5) := (blk_cell BK368.out 5).trans rfl
      have hcz11_6 : wc.cell? ⟨gb368, 6, none⟩ = some (.slice A0_6 l0_6.length c0_6) := (blk_cell BK368.out 6).trans rfl
      have hcz11_7 : wc.cell? ⟨gb368, 7, none⟩ = some (.int .i64 a0_7) := (blk_cell BK368.out 7).trans rfl
      have hcz11_8 : wc.cell? ⟨gb368, 8, none⟩ = some (.int .i64 a0_8) := (blk_cell BK368.out 8).trans rfl
      have hcz11_9 : wc.cell? ⟨gb368, 9, none⟩ = some (.int .i64 a0_9) := (blk_cell BK368.out 9).trans rfl
      have hcz11_10 : wc.cell? ⟨gb368, 10, none⟩ = some (.int .i64 a0_10) := (blk_cell BK368.out 10).trans rfl
      have hcz11_11 : wc.cell? ⟨gb368, 11, none⟩ = some (.int .i64 a0_11) := (blk_cell BK368.out 11).trans rfl
      have hfz11_0 := blk_frozen BK368.out 0
      have hfz11_1 := blk_frozen BK368.out 1
      have hfz11_2 := blk_frozen BK368.out 2
      have hfz11_3 := blk_frozen BK368.out 3
      have hfz11_4 := blk_frozen BK368.out 4
      have hfz11_5 := blk_frozen BK368.out 5
      have hfz11_6 := blk_frozen BK368.out 6
      have hfz11_7 := blk_frozen BK368.out 7
      have hfz11_8 := blk_frozen BK368.out 8
      have hfz11_9 := blk_frozen BK368.out 9
      have hfz11_10 := blk_frozen BK368.out 10
      have hfz11_11 := blk_frozen BK368.out 11
      go_wp2
      go_ret
      exact ⟨by first | rfl | (simp [errW_none, errW_some] <;> rfl) | (simp [*, errW_none, errW_some] <;> rfl), by repeat (first | (with_reducible first | exact HB.out | apply below_alloc | apply pw_below_drewN | apply below_drew1 | refine below_set ?_ GE368.out) | exact HB.out)⟩
     ·rw [if_neg c10] at H
      have c10b0 : decide (0 < (l0_3.length : Int)) = false := decide_eq_false c10
      have c10b1 : decide (0 < l0_3.length) = false := decide_eq_false (by omega)
      clear c10
      obtain rfl := Option.some.inj H
      have hcz12_0 : wc.cell? ⟨gb368, 0, none⟩ = some (.int .i64 a0_0) := (blk_cell BK368.out 0).trans rfl
      have hcz12_1 : wc.cell? ⟨gb368, 1, none⟩ = some (.int .i64 a0_1) := (blk_cell BK368.out 1).trans rfl
      have hcz12_2 : wc.cell? ⟨gb368, 2, none⟩ = some (.int .i64 a0_2) := (blk_cell BK368.out 2).trans rfl
      have hcz12_3 : wc.cell? ⟨gb368, 3, none⟩ = some (.slice A0_3 l0_3.length c0_3) := (blk_cell BK368.out 3).trans rfl
      have hcz12_4 : wc.cell? ⟨gb368, 4, none⟩ = some (.slice A0_4 l0_4.length c0_4) := (blk_cell BK368.out 4).trans rfl
      have hcz12_5 : wc.cell? ⟨gb368, 5, none⟩ = some (.slice A0_5 l0_5.length c0_5) := (blk_cell BK368.out 5).trans rfl
      have hcz12_6 : wc.cell? ⟨gb368, 6, none⟩ = some (.slice A0_6 l0_6.length c0_6) := (blk_cell BK368.out 6).trans rfl
      have hcz12_7 : wc.cell? ⟨gb368, 7, none⟩ = some (.int .i64 a0_7) := (blk_cell BK368.out 7).trans rfl
      have hcz12_8 : wc.cell? ⟨gb368, 8, none⟩ = some (.int .i64 a0_8) := (blk_cell BK368.out 8).trans rfl
      have hcz12_9 : wc.cell? ⟨gb368, 9, none⟩ = some (.int .i64 a0_9) := (blk_cell BK368.out 9).trans rfl
      have hcz12_10 : wc.cell? ⟨gb368, 10, none⟩ = some (.int .i64 a0_10) := (blk_cell BK368.out 10).trans rfl
      have hcz12_11 : wc.cell? ⟨gb368, 11, none⟩ = some (.int .i64 a0_11) := (blk_cell BK368.out 11).trans rfl
      have hfz12_0 := blk_frozen BK368.out 0
      have hfz12_1 := blk_frozen BK368.out 1
      have hfz12_2 := blk_frozen BK368.out 2
      have hfz12_3 := blk_frozen BK368.out 3
      have hfz12_4 := blk_frozen BK368.out 4
      have hfz12_5 := blk_frozen BK368.out 5
      have hfz12_6 := blk_frozen BK368.out 6
      have hfz12_7 := blk_frozen BK368.out 7
      have hfz12_8 := blk_frozen BK368.out 8
      have hfz12_9 := blk_frozen BK368.out 9
      have hfz12_10 := blk_frozen BK368.out 10
      have hfz12_11 := blk_frozen BK368.out 11
      go_wp2
      go_ret
      exact ⟨by first | rfl | (simp [errW_none, errW_some] <;> rfl) | (simp [*, errW_none, errW_some] <;> rfl), by repeat (first | (with_reducible first | exact HB.out | apply below_alloc | apply pw_below_drewN | apply below_drew1 | refine below_set ?_ GE368.out) | exact HB.out)⟩
    ·rw [if_neg c9] at H
     have c9b0 : (a0_0 == 3) = false := beq_eq_false_iff_ne.mpr c9
     have c9b1 : (a0_0 != 3) = true := bne_iff_ne.mpr c9
     by_cases c13 : a0_0 = 7
     ·rw [if_pos c13] at H
      have c13b0 : (a0_0 == 7) = true := beq_iff_eq.mpr c13
      have c13b1 : (a0_0 != 7) = false := bne_eq_false_iff_eq.mpr c13
      clear c13
      by_cases c14 : a0_10 ≥ 1
      ·rw [if_pos c14] at H
       have c14b0 : decide (1 ≤ a0_10) = true := decide_eq_true c14
       clear c14
       obtain rfl := Option.some.inj H
       have hcz15_0 : wc.cell? ⟨gb368, 0, none⟩ = some (.int .i64 a0_0) := (blk_cell BK368.out 0).trans rfl
       have hcz15_1 : wc.cell? ⟨gb368, 1, none⟩ = some (.int .i64 a0_1) := (blk_cell BK368.out 1).trans rfl
       have hcz15_2 : wc.cell? ⟨gb368, 2, none⟩ = some (.int .i64 a0_2) := (blk_cell BK368.out 2).trans rfl
       have hcz15_3 : wc.cell? ⟨gb368, 3, none⟩ = some (.slice A0_3 l0_3.length c0_3) := (blk_cell BK368.out 3).trans rfl
       have hcz15_4 : wc.cell? ⟨gb368, 4, none⟩ = some (.slice A0_4 l0_4.length c0_4) := (blk_cell BK368.out 4).trans rfl
       have hcz15_5 : wc.cell? ⟨gb368, 5, none⟩ = some (.slice A0_5 l0_5.length c0_5) := (blk_cell BK368.out 5).trans rfl
       have hcz15_6 : wc.cell? ⟨gb368, 6, none⟩ = some (.slice A0_6 l0_6.length c0_6) := (blk_cell BK368.out 6).trans rfl
       have hcz15_7 : wc.cell? ⟨gb368, 7, none⟩ = some (.int .i64 a0_7) := (blk_cell BK368.out 7).trans rfl
       have hcz15_8 : wc.cell? ⟨gb368, 8, none⟩ = some (.int .i64 a0_8) := (blk_cell BK368.out 8).trans rfl
       have hcz15_9 : wc.cell? ⟨gb368, 9, none⟩ = some (.int .i64 a0_9) := (blk_cell BK368.out 9).trans rfl
       have hcz15_10 : wc.cell? ⟨gb368, 10, none⟩ = some (.int .i64 a0_10) := (blk_cell BK368.out 10).trans rfl
       have hcz15_11 : wc.cell? ⟨gb368, 11, none⟩ = some (.int .i64 a0_11) := (blk_cell BK368.out 11).trans rfl
       have hfz15_0 := blk_frozen BK368.out 0
       have hfz15_1 := blk_frozen BK368.out 1
       have hfz15_2 := blk_frozen BK368.out 2
       have hfz15_3 := blk_frozen BK368.out 3
       have hfz15_4 := blk_frozen BK368.out 4
       have hfz15_5 := blk_frozen BK368.out 5
       have hfz15_6 := blk_frozen BK368.out 6
       have hfz15_7 := blk_frozen BK368.out 7
       have hfz15_8 := blk_frozen BK368.out 8
       have hfz15_9 := blk_frozen BK368.out 9
       have hfz15_10 := blk_frozen BK368.out 10
       have hfz15_11 := blk_frozen BK368.out 11
       go_wp2
       go_ret
       exact ⟨by first | rfl | (simp [errW_none, errW_some] <;> rfl) | (simp [*, errW_none, errW_some] <;> rfl), by repeat (first | (with_reducible first | exact HB.out | apply below_alloc | apply pw_below_drewN | apply below_drew1 | refine below_set ?_ GE368.out) | exact HB.out)⟩
      ·rw [if_neg c14] at H
       have c14b0 : decide (1 ≤ a0_10) = false := decide_eq_false c14
       clear c14
       obtain rfl := Option.some.inj H
       have hcz16_0 : wc.cell? ⟨gb368, 0, none⟩ = some (.int .i64 a0_0) := (blk_cell BK368.out 0).trans rfl
       have hcz16_1 : wc.cell? ⟨gb368, 1, none⟩ = some (.int .i64 a0_1) := (blk_cell BK368.out 1).trans rfl
       have hcz16_2 : wc.cell? ⟨gb368, 2, none⟩ = some (.int .i64 a0_2) := (blk_cell BK368.out 2).trans rfl
       have hcz16_3 : wc.cell? ⟨gb368, 3, none⟩ = some (.slice A0_3 l0_3.length c0_3) := (blk_cell BK368.out 3).trans rfl
       have hcz16_4 : wc.cell? ⟨gb368, 4, none⟩ = some (.slice A0_4 l0_4.length c0_4) := (blk_cell BK368.out 4).trans rfl
       have hcz16_5 : wc.cell? ⟨gb368, 5, none⟩ = some (.slice A0_5 l0_5.length c0_5) := (blk_cell BK368.out 5).trans rfl
       have hcz16_6 : wc.cell? ⟨gb368, 6, none⟩ = some (.slice A0_6 l0_6.length c0_6) := (blk_cell BK368.out 6).trans rfl
       have hcz16_7 : wc.cell? ⟨gb368, 7, none⟩ = some (.int .i64 a0_7) := (blk_cell BK368.out 7).trans rfl
       have hcz16_8 : wc.cell? ⟨gb368, 8, none⟩ = some (.int .i64 a0_8) := (blk_cell BK368.out 8).trans rfl
       have hcz16_9 : wc.cell? ⟨gb368, 9, none⟩ = some (.int .i64 a0_9) := (blk_cell BK368.out 9).trans rfl
       have hcz16_10 : wc.cell? ⟨gb368, 10, none⟩ = some (.int .i64 a0_10) := (blk_cell BK368.out 10).trans rfl
       have hcz16_11 : wc.cell? ⟨gb368, 11, none⟩ = some (.int .i64 a0_11) := (blk_cell BK368.out 11).trans rfl
       have hfz16_0 := blk_frozen BK368.out 0
       have hfz16_1 := blk_frozen BK368.out 1
       have hfz16_2 := blk_frozen BK368.out 2
       have hfz16_3 := blk_frozen BK368.out 3
       have hfz16_4 := blk_frozen BK368.out 4
       have hfz16_5 := blk_frozen BK368.out 5
       have hfz16_6 := blk_frozen BK368.out 6
       have hfz16_7 := blk_frozen BK368.out 7
       have hfz16_8 := blk_frozen BK368.out 8
       have hfz16_9 := blk_frozen BK368.out 9
       have hfz16_10 := blk_frozen BK368.out 10
       have hfz16_11 := blk_frozen BK368.out 11
       go_wp2
       go_ret
       exact ⟨by first | rfl | (simp [errW_none, errW_some] <;> rfl) | (simp [*, errW_none, errW_some] <;> rfl), by repeat (first | (with_reducible first | exact HB.out | apply below_alloc | apply pw_below_drewN | apply below_drew1 | refine below_set ?_ GE368.out) | exact HB.out)⟩
     ·rw [if_neg c13] at H
      have c13b0 : (a0_0 == 7) = false := beq_eq_false_iff_ne.mpr c13
      have c13b1 : (a0_0 != 7) = true := bne_iff_ne.mpr c13
      by_cases c17 : a0_0 = 8
      ·rw [if_pos c17] at H
       have c17b0 : (a0_0 == 8) = true := beq_iff_eq.mpr c17
       have c17b1 : (a0_0 != 8) = false := bne_eq_false_iff_eq.mpr c17
       clear c17
       replace H := Option.bind_eq_some_iff.mp H
       obtain ⟨t369, A180, H⟩ := H
       replace H : (some (t369 == 0)) = some r := H
       have A18 := Aside0.mk A180
       clear A180
       obtain rfl := Option.some.inj H
       have hcz19_0 : wc.cell? ⟨gb368, 0, none⟩ = some (.int .i64 a0_0) := (blk_cell BK368.out 0).trans rfl
       have hcz19_1 : wc.cell? ⟨gb368, 1, none⟩ = some (.int .i64 a0_1) := (blk_cell BK368.out 1).trans rfl
       have hcz19_2 : wc.cell? ⟨gb368, 2, none⟩ = some (.int .i64 a0_2) := (blk_cell BK368.out 2).trans rfl
       have hcz19_3 : wc.cell? ⟨gb368, 3, none⟩ = some (.slice A0_3 l0_3.length c0_3) := (blk_cell BK368.out 3).trans rfl
       have hcz19_4 : wc.cell? ⟨gb368, 4, none⟩ = some (.slice A0_4 l0_4.length c0_4) := (blk_cell BK368.out 4).trans rfl
       have hcz19_5 : wc.cell? ⟨gb368, 5, none⟩ = some (.slice A0_5 l0_5.length c0_5) := (blk_cell BK368.out 5).trans rfl
       have hcz19_6 : wc.cell? ⟨gb368, 6, none⟩ = some (.slice A0_6 l0_6.length c0_6) := (blk_cell BK368.out 6).trans rfl
       have hcz19_7 : wc.cell? ⟨gb368, 7, none⟩ = some (.int .i64 a0_7) := (blk_cell BK368.out 7).trans rfl
       have hcz19_8 : wc.cell? ⟨gb368, 8, none⟩ = some (.int .i64 a0_8) := (blk_cell BK368.out 8).trans rfl
       have hcz19_9 : wc.cell? ⟨gb368, 9, none⟩ = some (.int .i64 a0_9) := (blk_cell BK368.out 9).trans rfl
       have hcz19_10 : wc.cell? ⟨gb368, 10, none⟩ = some (.int .i64 a0_10) := (blk_cell BK368.out 10).trans rfl
       have hcz19_11 : wc.cell? ⟨gb368, 11, none⟩ = some (.int .i64 a0_11) := (blk_cell BK368.out 11).trans rfl
       have hfz19_0 := blk_frozen BK368.out 0
       have hfz19_1 := blk_frozen BK368.out 1
       have hfz19_2 := blk_frozen BK368.out 2
       have hfz19_3 := blk_frozen BK368.out 3
       have hfz19_4 := blk_frozen BK368.out 4
       have hfz19_5 := blk_frozen BK368.out 5
       have hfz19_6 := blk_frozen BK368.out 6
       have hfz19_7 := blk_frozen BK368.out 7
       have hfz19_8 := blk_frozen BK368.out 8
       have hfz19_9 := blk_frozen BK368.out 9
       have hfz19_10 := blk_frozen BK368.out 10
       have hfz19_11 := blk_frozen BK368.out 11
       go_wp2_with (first | ((with_reducible refine gate_callee (f := 34) rfl ?_); refine goesL_ (some 42) rfl rfl Try.func34 (by kernel_rfl) rfl #[.agg #[.int .i64 a0_7, .int .i64 a0_8, .int .i64 a0_9]] rfl (by (try simp only [List.map_toArray, List.map_cons, List.map_nil]); first | done | rfl | (simp only [List.length_drop, List.length_take]; rfl)) ?_; (with_reducible refine (window_Check.calls a0_7 a0_8 a0_9 t369 _ A18.out).mono ?_); rintro e w20 ⟨rfl, hb⟩; refine ⟨_, rfl, ?_⟩; have n0_ := Aside0.mk (blk_below (g := gb368) (o := .cells #[.int .i64 a0_0, .int .i64 a0_1, .int .i64 a0_2, .slice A0_3 l0_3.length c0_3, .slice A0_4 l0_4.length c0_4, .slice A0_5 l0_5.length c0_5, .slice A0_6 l0_6.length c0_6, .int .i64 a0_7, .int .i64 a0_8, .int .i64 a0_9, .int .i64 a0_10, .int .i64 a0_11] 40 (0, 0)) (by (with_reducible repeat (first | refine blk_drewN ?_ _ | refine blk_drew ?_ | refine blk_alloc ?_ _)); exact BK368.out) hb); have n1_ := Aside0.mk (below_step (by repeat (first | (with_reducible first | exact HB.out | apply below_alloc | apply pw_below_drewN | apply below_drew1 | refine below_set ?_ GE368.out) | exact HB.out)) hb); clear BK368; clear HB; have BK368 := n0_; have HB := n1_; clear n0_ n1_; (try clear hb); (try clear hb2); (try clear hk); (try clear hi)))
       go_ret
       exact ⟨by first | rfl | (simp [errW_none, errW_some] <;> rfl) | (simp [*, errW_none, errW_some] <;> rfl), by repeat (first | (with_reducible first | exact HB.out | apply below_alloc | apply pw_below_drewN | apply below_drew1 | refine below_set ?_ GE368.out) | exact HB.out)⟩
      ·rw [if_neg c17] at H
       have c17b0 : (a0_0 == 8) = false := beq_eq_false_iff_ne.mpr c17
       have c17b1 : (a0_0 != 8) = true := bne_iff_ne.mpr c17
       by_cases c21 : a0_0 = 9
       ·rw [if_pos c21] at H
        have c21b0 : (a0_0 == 9) = true := beq_iff_eq.mpr c21
        have c21b1 : (a0_0 != 9) = false := bne_eq_false_iff_eq.mpr c21
        clear c21
        replace H := Option.bind_eq_some_iff.mp H
        obtain ⟨t370, A220, H⟩ := H
        replace H : (if t370 = 0 then (if a0_10 ≥ 1 then (if a0_10 ≤ 64 then ((plan_col.f a0_11).bind fun t371 => (some t371)) else (some false)) else (some false)) else (some false)) = some r := H
        have A22 := Aside0.mk A220
        clear A220
        by_cases c23 : t370 = 0
        ·rw [if_pos c23] at H
         have c23b0 : (t370 == 0) = true := beq_iff_eq.mpr c23
         have c23b1 : (t370 != 0) = false := bne_eq_false_iff_eq.mpr c23
         clear c23
         by_cases c24 : a0_10 ≥ 1
         ·rw [if_pos c24] at H
          have c24b0 : decide (1 ≤ a0_10) = true := decide_eq_true c24
          clear c24
          by_cases c25 : a0_10 ≤ 64
          ·rw [if_pos c25] at H
           have c25b0 : decide (a0_10 ≤ 64) = true := decide_eq_true c25
           clear c25
           replace H := Option.bind_eq_some_iff.mp H
           obtain ⟨t371, A260, H⟩ := H
           replace H : (some t371) = some r := H
           have A26 := Aside0.mk A260
           clear A260
           obtain rfl := Option.some.inj H
           have hcz27_0 : wc.cell? ⟨gb368, 0, none⟩ = some (.int .i64 a0_0) := (blk_cell BK368.out 0).trans rfl
           have hcz27_1 : wc.cell? ⟨gb368, 1, none⟩ = some (.int .i64 a0_1) := (blk_cell BK368.out 1).trans rfl
           have hcz27_2 : wc.cell? ⟨gb368, 2, none⟩ = some (.int .i64 a0_2) := (blk_cell BK368.out 2).trans rfl
           have hcz27_3 : wc.cell? ⟨gb368, 3, none⟩ = some (.slice A0_3 l0_3.length c0_3) := (blk_cell BK368.out 3).trans rfl
           have hcz27_4 : wc.cell? ⟨gb368, 4, none⟩ = some (.slice A0_4 l0_4.length c0_4) := (blk_cell BK368.out 4).trans rfl
           have hcz27_5 : wc.cell? ⟨gb368, 5, none⟩ = some (.slice A0_5 l0_5.length c0_5) := (blk_cell BK368.out 5).trans rfl
           have hcz27_6 : wc.cell? ⟨gb368, 6, none⟩ = some (.slice A0_6 l0_6.length c0_6) := (blk_cell BK368.out 6).trans rfl
           have hcz27_7 : wc.cell? ⟨gb368, 7, none⟩ = some (.int .i64 a0_7) := (blk_cell BK368.out 7).trans rfl
           have hcz27_8 : wc.cell? ⟨gb368, 8, none⟩ = some (.int .i64 a0_8) := (blk_cell BK368.out 8).trans rfl
           have hcz27_9 : wc.cell? ⟨gb368, 9, none⟩ = some (.int .i64 a0_9) := (blk_cell BK368.out 9).trans rfl
           have hcz27_10 : wc.cell? ⟨gb368, 10, none⟩ = some (.int .i64 a0_10) := (blk_cell BK368.out 10).trans rfl
           have hcz27_11 : wc.cell? ⟨gb368, 11, none⟩ = some (.int .i64 a0_11) := (blk_cell BK368.out 11).trans rfl
           have hfz27_0 := blk_frozen BK368.out 0
           have hfz27_1 := blk_frozen BK368.out 1
           have hfz27_2 := blk_frozen BK368.out 2
           have hfz27_3 := blk_frozen BK368.out 3
           have hfz27_4 := blk_frozen BK368.out 4
           have hfz27_5 := blk_frozen BK368.out 5
           have hfz27_6 := blk_frozen BK368.out 6
           have hfz27_7 := blk_frozen BK368.out 7
           have hfz27_8 := blk_frozen BK368.out 8
           have hfz27_9 := blk_frozen BK368.out 9
           have hfz27_10 := blk_frozen BK368.out 10
           have hfz27_11 := blk_frozen BK368.out 11
           go_wp2_with (first | ((with_reducible refine gate_callee (f := 34) rfl ?_); refine goesL_ (some 48) rfl rfl Try.func34 (by kernel_rfl) rfl #[.agg #[.int .i64 a0_7, .int .i64 a0_8, .int .i64 a0_9]] rfl (by (try simp only [List.map_toArray, List.map_cons, List.map_nil]); first | done | rfl | (simp only [List.length_drop, List.length_take]; rfl)) ?_; (with_reducible refine (window_Check.calls a0_7 a0_8 a0_9 t370 _ A22.out).mono ?_); rintro e w28 ⟨rfl, hb⟩; refine ⟨_, rfl, ?_⟩; have n0_ := Aside0.mk (blk_below (g := gb368) (o := .cells #[.int .i64 a0_0, .int .i64 a0_1, .int .i64 a0_2, .slice A0_3 l0_3.length c0_3, .slice A0_4 l0_4.length c0_4, .slice A0_5 l0_5.length c0_5, .slice A0_6 l0_6.length c0_6, .int .i64 a0_7, .int .i64 a0_8, .int .i64 a0_9, .int .i64 a0_10, .int .i64 a0_11] 40 (0, 0)) (by (with_reducible repeat (first | refine blk_drewN ?_ _ | refine blk_drew ?_ | refine blk_alloc ?_ _)); exact BK368.out) hb); have n1_ := Aside0.mk (below_step (by repeat (first | (with_reducible first | exact HB.out | apply below_alloc | apply pw_below_drewN | apply below_drew1 | refine below_set ?_ GE368.out) | exact HB.out)) hb); clear BK368; clear HB; have BK368 := n0_; have HB := n1_; clear n0_ n1_; (try clear hb); (try clear hb2); (try clear hk); (try clear hi); have hcz29_0 : w28.cell? ⟨gb368, 0, none⟩ = some (.int .i64 a0_0) := (blk_cell BK368.out 0).trans rfl; have hcz29_1 : w28.cell? ⟨gb368, 1, none⟩ = some (.int .i64 a0_1) := (blk_cell BK368.out 1).trans rfl; have hcz29_2 : w28.cell? ⟨gb368, 2, none⟩ = some (.int .i64 a0_2) := (blk_cell BK368.out 2).trans rfl; have hcz29_3 : w28.cell? ⟨gb368, 3, none⟩ = some (.slice A0_3 l0_3.length c0_3) := (blk_cell BK368.out 3).trans rfl; have hcz29_4 : w28.cell? ⟨gb368, 4, none⟩ = some (.slice A0_4 l0_4.length c0_4) := (blk_cell BK368.out 4).trans rfl; have hcz29_5 : w28.cell? ⟨gb368, 5, none⟩ = some (.slice A0_5 l0_5.length c0_5) := (blk_cell BK368.out 5).trans rfl; have hcz29_6 : w28.cell? ⟨gb368, 6, none⟩ = some (.slice A0_6 l0_6.length c0_6) := (blk_cell BK368.out 6).trans rfl; have hcz29_7 : w28.cell? ⟨gb368, 7, none⟩ = some (.int .i64 a0_7) := (blk_cell BK368.out 7).trans rfl; have hcz29_8 : w28.cell? ⟨gb368, 8, none⟩ = some (.int .i64 a0_8) := (blk_cell BK368.out 8).trans rfl; have hcz29_9 : w28.cell? ⟨gb368, 9, none⟩ = some (.int .i64 a0_9) := (blk_cell BK368.out 9).trans rfl; have hcz29_10 : w28.cell? ⟨gb368, 10, none⟩ = some (.int .i64 a0_10) := (blk_cell BK368.out 10).trans rfl; have hcz29_11 : w28.cell? ⟨gb368, 11, none⟩ = some (.int .i64 a0_11) := (blk_cell BK368.out 11).trans rfl; have hfz29_0 := blk_frozen BK368.out 0; have hfz29_1 := blk_frozen BK368.out 1; have hfz29_2 := blk_frozen BK368.out 2; have hfz29_3 := blk_frozen BK368.out 3; have hfz29_4 := blk_frozen BK368.out 4; have hfz29_5 := blk_frozen BK368.out 5; have hfz29_6 := blk_frozen BK368.out 6; have hfz29_7 := blk_frozen BK368.out 7; have hfz29_8 := blk_frozen BK368.out 8; have hfz29_9 := blk_frozen BK368.out 9; have hfz29_10 := blk_frozen BK368.out 10; have hfz29_11 := blk_frozen BK368.out 11) | (go_at_call 35; (with_reducible refine (plan_col.calls a0_11 t371 _ A26.out).mono ?_); rintro e w' ⟨rfl, ⟨nd, rfl⟩⟩))
           go_ret
           exact ⟨by first | rfl | (simp [errW_none, errW_some] <;> rfl) | (simp [*, errW_none, errW_some] <;> rfl), by repeat (first | (with_reducible first | exact HB.out | apply below_alloc | apply pw_below_drewN | apply below_drew1 | refine below_set ?_ GE368.out) | exact HB.out)⟩
          ·rw [if_neg c25] at H
           have c25b0 : decide (a0_10 ≤ 64) = false := decide_eq_false c25
           clear c25
           obtain rfl := Option.some.inj H
           have hcz30_0 : wc.cell? ⟨gb368, 0, none⟩ = some (.int .i64 a0_0) := (blk_cell BK368.out 0).trans rfl
           have hcz30_1 : wc.cell? ⟨gb368, 1, none⟩ = some (.int .i64 a0_1) := (blk_cell BK368.out 1).trans rfl
           have hcz30_2 : wc.cell? ⟨gb368, 2, none⟩ = some (.int .i64 a0_2) := (blk_cell BK368.out 2).trans rfl
           have hcz30_3 : wc.cell? ⟨gb368, 3, none⟩ = some (.slice A0_3 l0_3.length c0_3) := (blk_cell BK368.out 3).trans rfl
           have hcz30_4 : wc.cell? ⟨gb368, 4, none⟩ = some (.slice A0_4 l0_4.length c0_4) := (blk_cell BK368.out 4).trans rfl
           have hcz30_5 : wc.cell? ⟨gb368, 5, none⟩ = some (.slice A0_5 l0_5.length c0_5) := (blk_cell BK368.out 5).trans rfl
           have hcz30_6 : wc.cell? ⟨gb368, 6, none⟩ = some (.slice A0_6 l0_6.length c0_6) := (blk_cell BK368.out 6).trans rfl
           have hcz30_7 : wc.cell? ⟨gb368, 7, none⟩ = some (.int .i64 a0_7) := (blk_cell BK368.out 7).trans rfl
           have hcz30_8 : wc.cell? ⟨gb368, 8, none⟩ = some (.int .i64 a0_8) := (blk_cell BK368.out 8).trans rfl
           have hcz30_9 : wc.cell? ⟨gb368, 9, none⟩ = some (.int .i64 a0_9) := (blk_cell BK368.out 9).trans rfl
           have hcz30_10 : wc.cell? ⟨gb368, 10, none⟩ = some (.int .i64 a0_10) := (blk_cell BK368.out 10).trans rfl
           have hcz30_11 : wc.cell? ⟨gb368, 11, none⟩ = some (.int .i64 a0_11) := (blk_cell BK368.out 11).trans rfl
           have hfz30_0 := blk_frozen BK368.out 0
           have hfz30_1 := blk_frozen BK368.out 1
           have hfz30_2 := blk_frozen BK368.out 2
           have hfz30_3 := blk_frozen BK368.out 3
           have hfz30_4 := blk_frozen BK368.out 4
           have hfz30_5 := blk_frozen BK368.out 5
           have hfz30_6 := blk_frozen BK368.out 6
           have hfz30_7 := blk_frozen BK368.out 7
           have hfz30_8 := blk_frozen BK368.out 8
           have hfz30_9 := blk_frozen BK368.out 9
           have hfz30_10 := blk_frozen BK368.out 10
           have hfz30_11 := blk_frozen BK368.out 11
           go_wp2_with (first | ((with_reducible refine gate_callee (f := 34) rfl ?_); refine goesL_ (some 48) rfl rfl Try.func34 (by kernel_rfl) rfl #[.agg #[.int .i64 a0_7, .int .i64 a0_8, .int .i64 a0_9]] rfl (by (try simp only [List.map_toArray, List.map_cons, List.map_nil]); first | done | rfl | (simp only [List.length_drop, List.length_take]; rfl)) ?_; (with_reducible refine (window_Check.calls a0_7 a0_8 a0_9 t370 _ A22.out).mono ?_); rintro e w31 ⟨rfl, hb⟩; refine ⟨_, rfl, ?_⟩; have n0_ := Aside0.mk (blk_below (g := gb368) (o := .cells #[.int .i64 a0_0, .int .i64 a0_1, .int .i64 a0_2, .slice A0_3 l0_3.length c0_3, .slice A0_4 l0_4.length c0_4, .slice A0_5 l0_5.length c0_5, .slice A0_6 l0_6.length c0_6, .int .i64 a0_7, .int .i64 a0_8, .int .i64 a0_9, .int .i64 a0_10, .int .i64 a0_11] 40 (0, 0)) (by (with_reducible repeat (first | refine blk_drewN ?_ _ | refine blk_drew ?_ | refine blk_alloc ?_ _)); exact BK368.out) hb); have n1_ := Aside0.mk (below_step (by repeat (first | (with_reducible first | exact HB.out | apply below_alloc | apply pw_below_drewN | apply below_drew1 | refine below_set ?_ GE368.out) | exact HB.out)) hb); clear BK368; clear HB; have BK368 := n0_; have HB := n1_; clear n0_ n1_; (try clear hb); (try clear hb2); (try clear hk); (try clear hi); have hcz32_0 : w31.cell? ⟨gb368, 0, none⟩ = some (.int .i64 a0_0) := (blk_cell BK368.out 0).trans rfl; have hcz32_1 : w31.cell? ⟨gb368, 1, none⟩ = some (.int .i64 a0_1) := (blk_cell BK368.out 1).trans rfl; have hcz32_2 : w31.cell? ⟨gb368, 2, none⟩ = some (.int .i64 a0_2) := (blk_cell BK368.out 2).trans rfl; have hcz32_3 : w31.cell? ⟨gb368, 3, none⟩ = some (.slice A0_3 l0_3.length c0_3) := (blk_cell BK368.out 3).trans rfl; have hcz32_4 : w31.cell? ⟨gb368, 4, none⟩ = some (.slice A0_4 l0_4.length c0_4) := (blk_cell BK368.out 4).trans rfl; have hcz32_5 : w31.cell? ⟨gb368, 5, none⟩ = some (.slice A0_5 l0_5.length c0_5) := (blk_cell BK368.out 5).trans rfl; have hcz32_6 : w31.cell? ⟨gb368, 6, none⟩ = some (.slice A0_6 l0_6.length c0_6) := (blk_cell BK368.out 6).trans rfl; have hcz32_7 : w31.cell? ⟨gb368, 7, none⟩ = some (.int .i64 a0_7) := (blk_cell BK368.out 7).trans rfl; have hcz32_8 : w31.cell? ⟨gb368, 8, none⟩ = some (.int .i64 a0_8) := (blk_cell BK368.out 8).trans rfl; have hcz32_9 : w31.cell? ⟨gb368, 9, none⟩ = some (.int .i64 a0_9) := (blk_cell BK368.out 9).trans rfl; have hcz32_10 : w31.cell? ⟨gb368, 10, none⟩ = some (.int .i64 a0_10) := (blk_cell BK368.out 10).trans rfl; have hcz32_11 : w31.cell? ⟨gb368, 11, none⟩ = some (.int .i64 a0_11) := (blk_cell BK368.out 11).trans rfl; have hfz32_0 := blk_frozen BK368.out 0; have hfz32_1 := blk_frozen BK368.out 1; have hfz32_2 := blk_frozen BK368.out 2; have hfz32_3 := blk_frozen BK368.out 3; have hfz32_4 := blk_frozen BK368.out 4; have hfz32_5 := blk_frozen BK368.out 5; have hfz32_6 := blk_frozen BK368.out 6; have hfz32_7 := blk_frozen BK368.out 7; have hfz32_8 := blk_frozen BK368.out 8; have hfz32_9 := blk_frozen BK368.out 9; have hfz32_10 := blk_frozen BK368.out 10; have hfz32_11 := blk_frozen BK368.out 11))
           go_ret
           exact ⟨by first | rfl | (simp [errW_none, errW_some] <;> rfl) | (simp [*, errW_none, errW_some] <;> rfl), by repeat (first | (with_reducible first | exact HB.out | apply below_alloc | apply pw_below_drewN | apply below_drew1 | refine below_set ?_ GE368.out) | exact HB.out)⟩
         ·rw [if_neg c24] at H
          have c24b0 : decide (1 ≤ a0_10) = false := decide_eq_false c24
          clear c24
          obtain rfl := Option.some.inj H
          have hcz33_0 : wc.cell? ⟨gb368, 0, none⟩ = some (.int .i64 a0_0) := (blk_cell BK368.out 0).trans rfl
          have hcz33_1 : wc.cell? ⟨gb368, 1, none⟩ = some (.int .i64 a0_1) := (blk_cell BK368.out 1).trans rfl
          have hcz33_2 : wc.cell? ⟨gb368, 2, none⟩ = some (.int .i64 a0_2) := (blk_cell BK368.out 2).trans rfl
          have hcz33_3 : wc.cell? ⟨gb368, 3, none⟩ = some (.slice A0_3 l0_3.length c0_3) := (blk_cell BK368.out 3).trans rfl
          have hcz33_4 : wc.cell? ⟨gb368, 4, none⟩ = some (.slice A0_4 l0_4.length c0_4) := (blk_cell BK368.out 4).trans rfl
          have hcz33_5 : wc.cell? ⟨gb368, 5, none⟩ = some (.slice A0_5 l0_5.length c0_5) := (blk_cell BK368.out 5).trans rfl
          have hcz33_6 : wc.cell? ⟨gb368, 6, none⟩ = some (.slice A0_6 l0_6.length c0_6) := (blk_cell BK368.out 6).trans rfl
          have hcz33_7 : wc.cell? ⟨gb368, 7, none⟩ = some (.int .i64 a0_7) := (blk_cell BK368.out 7).trans rfl
          have hcz33_8 : wc.cell? ⟨gb368, 8, none⟩ = some (.int .i64 a0_8) := (blk_cell BK368.out 8).trans rfl
          have hcz33_9 : wc.cell? ⟨gb368, 9, none⟩ = some (.int .i64 a0_9) := (blk_cell BK368.out 9).trans rfl
          have hcz33_10 : wc.cell? ⟨gb368, 10, none⟩ = some (.int .i64 a0_10) := (blk_cell BK368.out 10).trans rfl
          have hcz33_11 : wc.cell? ⟨gb368, 11, none⟩ = some (.int .i64 a0_11) := (blk_cell BK368.out 11).trans rfl
          have hfz33_0 := blk_frozen BK368.out 0
          have hfz33_1 := blk_frozen BK368.out 1
          have hfz33_2 := blk_frozen BK368.out 2
          have hfz33_3 := blk_frozen BK368.out 3
          have hfz33_4 := blk_frozen BK368.out 4
          have hfz33_5 := blk_frozen BK368.out 5
          have hfz33_6 := blk_frozen BK368.out 6
          have hfz33_7 := blk_frozen BK368.out 7
          have hfz33_8 := blk_frozen BK368.out 8
          have hfz33_9 := blk_frozen BK368.out 9
          have hfz33_10 := blk_frozen BK368.out 10
          have hfz33_11 := blk_frozen BK368.out 11
          go_wp2_with (first | ((with_reducible refine gate_callee (f := 34) rfl ?_); refine goesL_ (some 48) rfl rfl Try.func34 (by kernel_rfl) rfl #[.agg #[.int .i64 a0_7, .int .i64 a0_8, .int .i64 a0_9]] rfl (by (try simp only [List.map_toArray, List.map_cons, List.map_nil]); first | done | rfl | (simp only [List.length_drop, List.length_take]; rfl)) ?_; (with_reducible refine (window_Check.calls a0_7 a0_8 a0_9 t370 _ A22.out).mono ?_); rintro e w34 ⟨rfl, hb⟩; refine ⟨_, rfl, ?_⟩; have n0_ := Aside0.mk (blk_below (g := gb368) (o := .cells #[.int .i64 a0_0, .int .i64 a0_1, .int .i64 a0_2, .slice A0_3 l0_3.length c0_3, .slice A0_4 l0_4.length c0_4, .slice A0_5 l0_5.length c0_5, .slice A0_6 l0_6.length c0_6, .int .i64 a0_7, .int .i64 a0_8, .int .i64 a0_9, .int .i64 a0_10, .int .i64 a0_11] 40 (0, 0)) (by (with_reducible repeat (first | refine blk_drewN ?_ _ | refine blk_drew ?_ | refine blk_alloc ?_ _)); exact BK368.out) hb); have n1_ := Aside0.mk (below_step (by repeat (first | (with_reducible first | exact HB.out | apply below_alloc | apply pw_below_drewN | apply below_drew1 | refine below_set ?_ GE368.out) | exact HB.out)) hb); clear BK368; clear HB; have BK368 := n0_; have HB := n1_; clear n0_ n1_; (try clear hb); (try clear hb2); (try clear hk); (try clear hi); have hcz35_0 : w34.cell? ⟨gb368, 0, none⟩ = some (.int .i64 a0_0) := (blk_cell BK368.out 0).trans rfl; have hcz35_1 : w34.cell? ⟨gb368, 1, none⟩ = some (.int .i64 a0_1) := (blk_cell BK368.out 1).trans rfl; have hcz35_2 : w34.cell? ⟨gb368, 2, none⟩ = some (.int .i64 a0_2) := (blk_cell BK368.out 2).trans rfl; have hcz35_3 : w34.cell? ⟨gb368, 3, none⟩ = some (.slice A0_3 l0_3.length c0_3) := (blk_cell BK368.out 3).trans rfl; have hcz35_4 : w34.cell? ⟨gb368, 4, none⟩ = some (.slice A0_4 l0_4.length c0_4) := (blk_cell BK368.out 4).trans rfl; have hcz35_5 : w34.cell? ⟨gb368, 5, none⟩ = some (.slice A0_5 l0_5.length c0_5) := (blk_cell BK368.out 5).trans rfl; have hcz35_6 : w34.cell? ⟨gb368, 6, none⟩ = some (.slice A0_6 l0_6.length c0_6) := (blk_cell BK368.out 6).trans rfl; have hcz35_7 : w34.cell? ⟨gb368, 7, none⟩ = some (.int .i64 a0_7) := (blk_cell BK368.out 7).trans rfl; have hcz35_8 : w34.cell? ⟨gb368, 8, none⟩ = some (.int .i64 a0_8) := (blk_cell BK368.out 8).trans rfl; have hcz35_9 : w34.cell? ⟨gb368, 9, none⟩ = some (.int .i64 a0_9) := (blk_cell BK368.out 9).trans rfl; have hcz35_10 : w34.cell? ⟨gb368, 10, none⟩ = some (.int .i64 a0_10) := (blk_cell BK368.out 10).trans rfl; have hcz35_11 : w34.cell? ⟨gb368, 11, none⟩ = some (.int .i64 a0_11) := (blk_cell BK368.out 11).trans rfl; have hfz35_0 := blk_frozen BK368.out 0; have hfz35_1 := blk_frozen BK368.out 1; have hfz35_2 := blk_frozen BK368.out 2; have hfz35_3 := blk_frozen BK368.out 3; have hfz35_4 := blk_frozen BK368.out 4; have hfz35_5 := blk_frozen BK368.out 5; have hfz35_6 := blk_frozen BK368.out 6; have hfz35_7 := blk_frozen BK368.out 7; have hfz35_8 := blk_frozen BK368.out 8; have hfz35_9 := blk_frozen BK368.out 9; have hfz35_10 := blk_frozen BK368.out 10; have hfz35_11 := blk_frozen BK368.out 11))
          go_ret
          exact ⟨by first | rfl | (simp [errW_none, errW_some] <;> rfl) | (simp [*, errW_none, errW_some] <;> rfl), by repeat (first | (with_reducible first | exact HB.out | apply below_alloc | apply pw_below_drewN | apply below_drew1 | refine below_set ?_ GE368.out) | exact HB.out)⟩
        ·rw [if_neg c23] at H
         have c23b0 : (t370 == 0) = false := beq_eq_false_iff_ne.mpr c23
         have c23b1 : (t370 != 0) = true := bne_iff_ne.mpr c23
         obtain rfl := Option.some.inj H
         have hcz36_0 : wc.cell? ⟨gb368, 0, none⟩ = some (.int .i64 a0_0) := (blk_cell BK368.out 0).trans rfl
         have hcz36_1 : wc.cell? ⟨gb368, 1, none⟩ = some (.int .i64 a0_1) := (blk_cell BK368.out 1).trans rfl
         have hcz36_2 : wc.cell? ⟨gb368, 2, none⟩ = some (.int .i64 a0_2) := (blk_cell BK368.out 2).trans rfl
         have hcz36_3 : wc.cell? ⟨gb368, 3, none⟩ = some (.slice A0_3 l0_3.length c0_3) := (blk_cell BK368.out 3).trans rfl
         have hcz36_4 : wc.cell? ⟨gb368, 4, none⟩ = some (.slice A0_4 l0_4.length c0_4) := (blk_cell BK368.out 4).trans rfl
         have hcz36_5 : wc.cell? ⟨gb368, 5, none⟩ = some (.slice A0_5 l0_5.length c0_5) := (blk_cell BK368.out 5).trans rfl
         have hcz36_6 : wc.cell? ⟨gb368, 6, none⟩ = some (.slice A0_6 l0_6.length c0_6) := (blk_cell BK368.out 6).trans rfl
         have hcz36_7 : wc.cell? ⟨gb368, 7, none⟩ = some (.int .i64 a0_7) := (blk_cell BK368.out 7).trans rfl
         have hcz36_8 : wc.cell? ⟨gb368, 8, none⟩ = some (.int .i64 a0_8) := (blk_cell BK368.out 8).trans rfl
         have hcz36_9 : wc.cell? ⟨gb368, 9, none⟩ = some (.int .i64 a0_9) := (blk_cell BK368.out 9).trans rfl
         have hcz36_10 : wc.cell? ⟨gb368, 10, none⟩ = some (.int .i64 a0_10) := (blk_cell BK368.out 10).trans rfl
         have hcz36_11 : wc.cell? ⟨gb368, 11, none⟩ = some (.int .i64 a0_11) := (blk_cell BK368.out 11).trans rfl
         have hfz36_0 := blk_frozen BK368.out 0
         have hfz36_1 := blk_frozen BK368.out 1
         have hfz36_2 := blk_frozen BK368.out 2
         have hfz36_3 := blk_frozen BK368.out 3
         have hfz36_4 := blk_frozen BK368.out 4
         have hfz36_5 := blk_frozen BK368.out 5
         have hfz36_6 := blk_frozen BK368.out 6
         have hfz36_7 := blk_frozen BK368.out 7
         have hfz36_8 := blk_frozen BK368.out 8
         have hfz36_9 := blk_frozen BK368.out 9
         have hfz36_10 := blk_frozen BK368.out 10
         have hfz36_11 := blk_frozen BK368.out 11
         go_wp2_with (first | ((with_reducible refine gate_callee (f := 34) rfl ?_); refine goesL_ (some 48) rfl rfl Try.func34 (by kernel_rfl) rfl #[.agg #[.int .i64 a0_7, .int .i64 a0_8, .int .i64 a0_9]] rfl (by (try simp only [List.map_toArray, List.map_cons, List.map_nil]); first | done | rfl | (simp only [List.length_drop, List.length_take]; rfl)) ?_; (with_reducible refine (window_Check.calls a0_7 a0_8 a0_9 t370 _ A22.out).mono ?_); rintro e w37 ⟨rfl, hb⟩; refine ⟨_, rfl, ?_⟩; have n0_ := Aside0.mk (blk_below (g := gb368) (o := .cells #[.int .i64 a0_0, .int .i64 a0_1, .int .i64 a0_2, .slice A0_3 l0_3.length c0_3, .slice A0_4 l0_4.length c0_4, .slice A0_5 l0_5.length c0_5, .slice A0_6 l0_6.length c0_6, .int .i64 a0_7, .int .i64 a0_8, .int .i64 a0_9, .int .i64 a0_10, .int .i64 a0_11] 40 (0, 0)) (by (with_reducible repeat (first | refine blk_drewN ?_ _ | refine blk_drew ?_ | refine blk_alloc ?_ _)); exact BK368.out) hb); have n1_ := Aside0.mk (below_step (by repeat (first | (with_reducible first | exact HB.out | apply below_alloc | apply pw_below_drewN | apply below_drew1 | refine below_set ?_ GE368.out) | exact HB.out)) hb); clear BK368; clear HB; have BK368 := n0_; have HB := n1_; clear n0_ n1_; (try clear hb); (try clear hb2); (try clear hk); (try clear hi)))
         go_ret
         exact ⟨by first | rfl | (simp [errW_none, errW_some] <;> rfl) | (simp [*, errW_none, errW_some] <;> rfl), by repeat (first | (with_reducible first | exact HB.out | apply below_alloc | apply pw_below_drewN | apply below_drew1 | refine below_set ?_ GE368.out) | exact HB.out)⟩
       ·rw [if_neg c21] at H
        have c21b0 : (a0_0 == 9) = false := beq_eq_false_iff_ne.mpr c21
        have c21b1 : (a0_0 != 9) = true := bne_iff_ne.mpr c21
        obtain rfl := Option.some.inj H
        go_wp2
        go_ret
        exact ⟨by first | rfl | (simp [errW_none, errW_some] <;> rfl) | (simp [*, errW_none, errW_some] <;> rfl), by repeat (first | (with_reducible first | exact HB.out | apply below_alloc | apply pw_below_drewN | apply below_drew1 | refine below_set ?_ GE368.out) | exact HB.out)⟩
end Go.Proofs.Ytpidiibhgfjemaa.PLo
end
section
namespace Go.Proofs.Ytpidiibhgfjemaa.PLo
open Go.Proofs.Ytpidiibhgfjemaa.PLg Go.Proofs.Ytpidiibhgfjemaa.PLh
open Go.RowKit Go.Proofs.YtpidiibhgfjemaaW.PrintWords Go.Proofs.YtpidiibhgfjemaaW.PrintLast Go.Proofs.YtpidiibhgfjemaaW.PrintMore
attribute [local go_sem] max2_int min2_int max_two min_two max_three min_three max_four min_four
set_option linter.unusedVariables false
set_option linter.unusedSimpArgs false
end Go.Proofs.Ytpidiibhgfjemaa.PLo
end
section
namespace Go.Proofs.Ytpidiibhgfjemaa.PLh
open Go.Proofs.Ytpidiibhgfjemaa.PLg
open Go.RowKit Go.Proofs.YtpidiibhgfjemaaW.PrintWords Go.Proofs.YtpidiibhgfjemaaW.PrintLast Go.Proofs.YtpidiibhgfjemaaW.PrintMore
set_option linter.unusedVariables false
set_option linter.unusedSimpArgs false
attribute [local go_sem] max2_int min2_int max_two min_two max_three min_three max_four min_four
theorem eqA34 (d : Nat) (w : World) (x0 y0 : Int) (x1 y1 : Int) (x2 y2 : Int) :
  (Op.equalIn (d + 2) 34 (.agg #[.int .i64 x0, .int .i64 x1, .int .i64 x2]) (.agg #[.int .i64 y0, .int .i64 y1, .int .i64 y2])).run Try.prog w = .ok (x0 == y0 && (x1 == y1 && (x2 == y2))) w := by
 refine eqA_of Try.underlying34 (by kernel_rfl) ?_
 refine eqf_cons (by rfl) (by go_simp; rfl) (by go_simp; rfl) (by go_simp) ?_
 refine eqf_cons (by rfl) (by go_simp; rfl) (by go_simp; rfl) (by go_simp) ?_
 exact eqf_last (by rfl) (by go_simp; rfl) (by go_simp; rfl) (by go_simp)
def plan_spare.T1 : Bool × List (List Nat × List Nat) := (true, [([], []), ([0], [0]), ([1], [1]), ([], []), ([3], [3]), ([4], [4]), ([5], [5]), ([], []), ([7], [7]), ([8], [8]), ([9], [9]), ([], []), ([11], [11]), ([12], [12]), ([13], [13]), ([], []), ([15], [15]), ([16], [16]), ([17], [17]), ([], []), ([19], [19]), ([], []), ([20, 21], [20, 21]), ([], []), ([23], [23]), ([24], [24]), ([], []), ([26], [26]), ([27], [27]), ([2, 6, 10, 14, 18, 22, 25, 28], [2, 6, 10, 14, 18, 22, 25, 28]), ([], []), ([30, 29, 0, 1, 2, 3, 4, 5, 6, 7, 8, 9, 10, 11, 12, 13, 14, 15, 16, 17, 18, 19, 20, 21, 22, 23, 24, 25, 26, 27, 28, 29, 30], [29, 30])])
def plan_spare.B1 : List Nat := [0, 1, 3, 0, 8, 24, 56, 0, 128, 384, 896, 0, 2048, 6144, 14336, 0, 32768, 98304, 229376, 0, 524288, 0, 3670016, 0, 8388608, 25165824, 0, 67108864, 201326592, 536870911, 0, 2147483647]
theorem plan_spare.tab1 : rtab .any (opsOf Try.f24 1) = plan_spare.T1 := by kernel_rfl
theorem plan_spare.bits1 : waitsOk plan_spare.T1.2 plan_spare.B1 = true := by kernel_rfl
def spareB (b u : List Bool) : Bool := (b.zip u).any fun x => x.1 && !x.2
theorem gen_world {P : Program} {c : Code} {Q : Exit → Act → World → Prop} {a : Act} {W0 : World} (Φ : World → Prop) (h0 : Φ W0) (h : ∀ W, Φ W → c.wp P Q a W) : c.wp P Q a W0 := h _ h0
end Go.Proofs.Ytpidiibhgfjemaa.PLh
end
section
namespace Go.Proofs.Ytpidiibhgfjemaa.PLh
open Go.Proofs.Ytpidiibhgfjemaa.PLg
open Go.RowKit Go.Proofs.YtpidiibhgfjemaaW.PrintWords Go.Proofs.YtpidiibhgfjemaaW.PrintLast Go.Proofs.YtpidiibhgfjemaaW.PrintMore
set_option linter.unusedVariables false
set_option linter.unusedSimpArgs false
attribute [local go_sem] max2_int min2_int max_two min_two max_three min_three max_four min_four
attribute [local go_sem high] eqA34
theorem guard3 {P : Program} {ops : Array Oper} {Q : Exit → Act → World → Prop} {rest : List Oper} {a : Act} {w : World} {o4 o5 o6 : Oper} {k : Nat} (b t : Bool) (addr : Value)
  (g4 : o4.guard = some (k, true)) (g5 : o5.guard = some (k, true)) (g6 : o6.guard = none)
  (h4 : yielded ops a.tmps k = some b) (h5 : ∀ x, yielded ops (a.put o4.dst x).tmps k = some b)
  (r4 : (execOp a.eval o4).run P w = .ok (.value addr) w)
  (r5 : (execOp (a.put o4.dst addr).eval o5).run P w = .ok (.value (.bool t)) w)
  (r6 : b = true → (execOp ((a.put o4.dst addr).put o5.dst (.bool t)).eval o6).run P w = .ok (.value (.bool t)) w)
  (r7 : b = false → (execOp ((a.put o4.dst undef).put o5.dst undef).eval o6).run P w = .ok (.value (.bool false)) w)
  (h : ∀ x y, wpList P ops Q rest (((a.put o4.dst x).put o5.dst y).put o6.dst (.bool (b && t))) w) : wpList P ops Q (o4 :: o5 :: o6 :: rest) a w := by
 cases b
 ·refine wpList_skip (by simp [Region.wanted, g4, h4]) ?_
  refine wpList_skip (by simp [Region.wanted, g5, h5]) ?_
  refine wpList_plain g6 fun K hK => ?_
  unfold Oper.wp
  rw [r7 rfl]
  exact hK _ _ (h _ _)
 ·refine BigFrame.wpList_want (by simp [Region.wanted, g4, h4]) fun K hK => ?_
  unfold Oper.wp
  rw [r4]
  refine hK _ _ ?_
  refine BigFrame.wpList_want (by simp [Region.wanted, g5, h5]) fun K hK => ?_
  unfold Oper.wp
  rw [r5]
  refine hK _ _ ?_
  refine wpList_plain g6 fun K hK => ?_
  unfold Oper.wp
  rw [r6 rfl]
  have := h addr (.bool t)
  rw [Bool.true_and] at this
  exact hK _ _ this
theorem eqA54 (d : Nat) (w : World) (x0 y0 : Bool) (x1 y1 : Bool) (x2 y2 : Bool) (x3 y3 : Bool) (x4 y4 : Bool) (x5 y5 : Bool) (x6 y6 : Bool) (x7 y7 : Bool) :
  (Op.equalIn (d + 2) 54 (.agg #[.bool x0, .bool x1, .bool x2, .bool x3, .bool x4, .bool x5, .bool x6, .bool x7]) (.agg #[.bool y0, .bool y1, .bool y2, .bool y3, .bool y4, .bool y5, .bool y6, .bool y7])).run Try.prog w = .ok (x0 == y0 && (x1 == y1 && (x2 == y2 && (x3 == y3 && (x4 == y4 && (x5 == y5 && (x6 == y6 && (x7 == y7)))))))) w := by
 refine eqA_of Try.underlying54 (by kernel_rfl) ?_
 refine eqf_cons (by rfl) (by go_simp; rfl) (by go_simp; rfl) (by go_simp) ?_
 refine eqf_cons (by rfl) (by go_simp; rfl) (by go_simp; rfl) (by go_simp) ?_
 refine eqf_cons (by rfl) (by go_simp; rfl) (by go_simp; rfl) (by go_simp) ?_
 refine eqf_cons (by rfl) (by go_simp; rfl) (by go_simp; rfl) (by go_simp) ?_
 refine eqf_cons (by rfl) (by go_simp; rfl) (by go_simp; rfl) (by go_simp) ?_
 refine eqf_cons (by rfl) (by go_simp; rfl) (by go_simp; rfl) (by go_simp) ?_
 refine eqf_cons (by rfl) (by go_simp; rfl) (by go_simp; rfl) (by go_simp) ?_
 exact eqf_last (by rfl) (by go_simp; rfl) (by go_simp; rfl) (by go_simp)
attribute [local go_sem high] eqA54
theorem spare_id (b0 b1 b2 b3 b4 b5 b6 b7 t0 t1 t2 t3 t4 t5 t6 t7 : Bool) : ((!(b0 == (b0 && t0))) || ((!(b1 == (b1 && t1))) || ((!(b2 == (b2 && t2))) || ((!(b3 == (b3 && t3))) || ((!(b4 == (b4 && t4))) || ((!(b5 == (b5 && t5))) || ((!(b6 == (b6 && t6))) || (!(b7 == (b7 && t7)))))))))) = spareB [b0, b1, b2, b3, b4, b5, b6, b7] [t0, t1, t2, t3, t4, t5, t6, t7] := by
 have e : ∀ b t : Bool, (!(b == (b && t))) = (b && !t) := by decide
 simp only [e, spareB, List.zip_cons_cons, List.zip_nil_left, List.any_cons, List.any_nil, Bool.or_false]
set_option maxHeartbeats 40000000 in
set_option maxRecDepth 100000 in
theorem spare_walk (k : Nat) (a0_0 : Int) (a0_1 : Int) (a0_2 : Int) (A0_3 : Option Addr) (c0_3 : Nat) (l0_3 : List (List (S79))) (A0_4 : Option Addr) (c0_4 : Nat) (l0_4 : List ByteArray) (A0_5 : Option Addr) (c0_5 : Nat) (l0_5 : List Int) (A0_6 : Option Addr) (c0_6 : Nat) (l0_6 : List (S43)) (a0_7 : Int) (a0_8 : Int) (a0_9 : Int) (a0_10 : Int) (a0_11 : Int) (t103 t104 t105 t106 t107 t108 t109 t110 : Bool) (w : World) (hr0_3 : Kd.C (Kd.slice 79 k79) w A0_3 l0_3.length l0_3) (hc0_3 : l0_3.length ≤ c0_3) (hr0_4 : Kd.C Kd.string w A0_4 l0_4.length l0_4) (hc0_4 : l0_4.length ≤ c0_4) (hr0_5 : Kd.C (Kd.int .i64) w A0_5 l0_5.length l0_5) (hc0_5 : l0_5.length ≤ c0_5) (hr0_6 : Kd.C k43 w A0_6 l0_6.length l0_6) (hc0_6 : l0_6.length ≤ c0_6) (h : plan_fields.f k a0_0 = some (t103, t104, t105, t106, t107, t108, t109, t110)) :
  Calls Try.prog 24 #[.agg #[.int .i64 a0_0, .int .i64 a0_1, .int .i64 a0_2, .slice A0_3 l0_3.length c0_3, .slice A0_4 l0_4.length c0_4, .slice A0_5 l0_5.length c0_5, .slice A0_6 l0_6.length c0_6, .int .i64 a0_7, .int .i64 a0_8, .int .i64 a0_9, .int .i64 a0_10, .int .i64 a0_11]] w fun e w' => e = .returned (.bool (spareB [(a0_2 != 0), (decide (0 < l0_3.length)), (decide (0 < l0_4.length)), (decide (0 < l0_5.length)), (decide (0 < l0_6.length)), (!a0_7 == 0 || (!a0_8 == 0 || !a0_9 == 0)), (a0_10 != 0), (a0_11 != 0)] [t103, t104, t105, t106, t107, t108, t109, t110])) ∧ Below w.heap.size w w' := by
 have hu40 := Try.underlying40
 have hu34 := Try.underlying34
 have hu54 := Try.underlying54
 have HR0_3 := Aside0.mk hr0_3
 have HC0_3 := Aside0.mk hc0_3
 clear hr0_3 hc0_3
 have HR0_4 := Aside0.mk hr0_4
 have HC0_4 := Aside0.mk hc0_4
 clear hr0_4 hc0_4
 have HR0_5 := Aside0.mk hr0_5
 have HC0_5 := Aside0.mk hc0_5
 clear hr0_5 hc0_5
 have HR0_6 := Aside0.mk hr0_6
 have HC0_6 := Aside0.mk hc0_6
 clear hr0_6 hc0_6
 have HB := Aside0.mk (Below.refl w.heap.size w)
 have A2 := Aside0.mk h
 clear h
 go_enter Try.func24, Try.ntmps24
 try go_wp2_with (first | ((with_reducible refine gate_dst (N := 1) rfl ?_); refine box_event ?hg (N := 1) ?hd (cs := #[.int .i64 a0_0, .int .i64 a0_1, .int .i64 a0_2, .slice A0_3 l0_3.length c0_3, .slice A0_4 l0_4.length c0_4, .slice A0_5 l0_5.length c0_5, .slice A0_6 l0_6.length c0_6, .int .i64 a0_7, .int .i64 a0_8, .int .i64 a0_9, .int .i64 a0_10, .int .i64 a0_11]) (t := 40) ?hr ?_; (case hd => rfl); (case hg => rfl); (case hr => first | (go_simp; done) | (go_simp; rfl)); intro gb101 hg w3 hbox hb; have n0_ := Aside0.mk (below_step (by repeat (first | (with_reducible first | exact HB.out | apply below_alloc | apply pw_below_drewN | apply below_drew1) | exact HB.out)) hb); have n1_ := Aside0.mk (hbox); have n2_ := Aside0.mk ((by rw [hg]; exact (below_size (by repeat (first | (with_reducible first | exact HB.out | apply below_alloc | apply pw_below_drewN | apply below_drew1) | exact HB.out))) : w.heap.size ≤ gb101)); have n3_ := Aside0.mk ((by rw [hg]; exact (below_size (by repeat (first | (with_reducible first | exact HB.out | apply below_alloc | apply pw_below_drewN | apply below_drew1) | exact HB.out))) : w.heap.size ≤ gb101)); clear HB; have HB := n0_; have BK101 := n1_; have GW101 := n2_; have GE101 := n3_; clear n0_ n1_ n2_ n3_; clear hb hbox hg))
 have n0_ := Aside0.mk (blk_drew BK101.out)
 have n1_ := Aside0.mk (below_drew1 HB.out)
 clear BK101
 clear HB
 have BK101 := n0_
 have HB := n1_
 clear n0_ n1_
 refine start_ (n := 32) (S := fun w' => w'.cell? ⟨gb101, 0, none⟩ = some (.int .i64 a0_0) ∧ w'.cell? ⟨gb101, 1, none⟩ = some (.int .i64 a0_1) ∧ w'.cell? ⟨gb101, 2, none⟩ = some (.int .i64 a0_2) ∧ w'.cell? ⟨gb101, 3, none⟩ = some (.slice A0_3 l0_3.length c0_3) ∧ w'.cell? ⟨gb101, 4, none⟩ = some (.slice A0_4 l0_4.length c0_4) ∧ w'.cell? ⟨gb101, 5, none⟩ = some (.slice A0_5 l0_5.length c0_5) ∧ w'.cell? ⟨gb101, 6, none⟩ = some (.slice A0_6 l0_6.length c0_6) ∧ w'.cell? ⟨gb101, 7, none⟩ = some (.int .i64 a0_7) ∧ w'.cell? ⟨gb101, 8, none⟩ = some (.int .i64 a0_8) ∧ w'.cell? ⟨gb101, 9, none⟩ = some (.int .i64 a0_9) ∧ w'.cell? ⟨gb101, 10, none⟩ = some (.int .i64 a0_10) ∧ w'.cell? ⟨gb101, 11, none⟩ = some (.int .i64 a0_11)) (ds := []) #[false, false, false, false, false, false, false, false, false, false, false, false, false, false, false, false, false, false, false, false, false, false, false, false, false, false, false, false, false, false, false, false] (by kernel_rfl) rfl rfl ⟨(blk_cell BK101.out 0).trans rfl, (blk_cell BK101.out 1).trans rfl, (blk_cell BK101.out 2).trans rfl, (blk_cell BK101.out 3).trans rfl, (blk_cell BK101.out 4).trans rfl, (blk_cell BK101.out 5).trans rfl, (blk_cell BK101.out 6).trans rfl, (blk_cell BK101.out 7).trans rfl, (blk_cell BK101.out 8).trans rfl, (blk_cell BK101.out 9).trans rfl, (blk_cell BK101.out 10).trans rfl, (blk_cell BK101.out 11).trans rfl⟩ (fun hHeld => ?_); refine with_tabW plan_spare.tab1 plan_spare.bits1 (fun HT_ HW_ => ?_)
 generalize w3.drew = w4 at BK101 HB hHeld ⊢
 refine pure_ (i := 0) (N := some 6) (v := ?_) (a' := ?_) #[true, false, false, false, false, false, false, false, false, false, false, false, false, false, false, false, false, false, false, false, false, false, false, false, false, false, false, false, false, false, false, false] rfl rfl (any_of HT_.out (by kernel_rfl)) (fun _ _ _ h => h) (Or.inl ⟨by rfl, ?_⟩) ?_ ?_
 rotate_left
 ·intro w'
  go_simp
  with_reducible rfl
 rotate_left
 ·simp only [Act.put, List.setIfInBounds_toArray, List.set_cons_zero, List.set_cons_succ, i64_w, i32_w]
  rfl
 refine pure_ (i := 3) (N := some 9) (v := ?_) (a' := ?_) #[true, false, false, true, false, false, false, false, false, false, false, false, false, false, false, false, false, false, false, false, false, false, false, false, false, false, false, false, false, false, false, false] rfl rfl (any_of HT_.out (by kernel_rfl)) (fun _ _ _ h => h) (Or.inl ⟨by rfl, ?_⟩) ?_ ?_
 rotate_left
 ·intro w'
  go_simp
  with_reducible rfl
 rotate_left
 ·simp only [Act.put, List.setIfInBounds_toArray, List.set_cons_zero, List.set_cons_succ, i64_w, i32_w]
  rfl
 refine pure_ (i := 7) (N := some 13) (v := ?_) (a' := ?_) #[true, false, false, true, false, false, false, true, false, false, false, false, false, false, false, false, false, false, false, false, false, false, false, false, false, false, false, false, false, false, false, false] rfl rfl (any_of HT_.out (by kernel_rfl)) (fun _ _ _ h => h) (Or.inl ⟨by rfl, ?_⟩) ?_ ?_
 rotate_left
 ·intro w'
  go_simp
  with_reducible rfl
 rotate_left
 ·simp only [Act.put, List.setIfInBounds_toArray, List.set_cons_zero, List.set_cons_succ, i64_w, i32_w]
  rfl
 refine pure_ (i := 11) (N := some 17) (v := ?_) (a' := ?_) #[true, false, false, true, false, false, false, true, false, false, false, true, false, false, false, false, false, false, false, false, false, false, false, false, false, false, false, false, false, false, false, false] rfl rfl (any_of HT_.out (by kernel_rfl)) (fun _ _ _ h => h) (Or.inl ⟨by rfl, ?_⟩) ?_ ?_
 rotate_left
 ·intro w'
  go_simp
  with_reducible rfl
 rotate_left
 ·simp only [Act.put, List.setIfInBounds_toArray, List.set_cons_zero, List.set_cons_succ, i64_w, i32_w]
  rfl
 refine pure_ (i := 15) (N := some 21) (v := ?_) (a' := ?_) #[true, false, false, true, false, false, false, true, false, false, false, true, false, false, false, true, false, false, false, false, false, false, false, false, false, false, false, false, false, false, false, false] rfl rfl (any_of HT_.out (by kernel_rfl)) (fun _ _ _ h => h) (Or.inl ⟨by rfl, ?_⟩) ?_ ?_
 rotate_left
 ·intro w'
  go_simp
  with_reducible rfl
 rotate_left
 ·simp only [Act.put, List.setIfInBounds_toArray, List.set_cons_zero, List.set_cons_succ, i64_w, i32_w]
  rfl
 refine pure_ (i := 19) (N := some 25) (v := ?_) (a' := ?_) #[true, false, false, true, false, false, false, true, false, false, false, true, false, false, false, true, false, false, false, true, false, false, false, false, false, false, false, false, false, false, false, false] rfl rfl (any_of HT_.out (by kernel_rfl)) (fun _ _ _ h => h) (Or.inl ⟨by rfl, ?_⟩) ?_ ?_
 rotate_left
 ·intro w'
  go_simp
  with_reducible rfl
 rotate_left
 ·simp only [Act.put, List.setIfInBounds_toArray, List.set_cons_zero, List.set_cons_succ, i64_w, i32_w]
  rfl
 refine pure_ (i := 21) (N := some 27) (v := ?_) (a' := ?_) #[true, false, false, true, false, false, false, true, false, false, false, true, false, false, false, true, false, false, false, true, false, true, false, false, false, false, false, false, false, false, false, false] rfl rfl (any_of HT_.out (by kernel_rfl)) (fun _ _ _ h => h) (Or.inl ⟨by rfl, ?_⟩) ?_ ?_
 rotate_left
 ·intro w'
  go_simp
  with_reducible rfl
 rotate_left
 ·simp only [Act.put, List.setIfInBounds_toArray, List.set_cons_zero, List.set_cons_succ, i64_w, i32_w]
  rfl
 refine pure_ (i := 23) (N := some 29) (v := ?_) (a' := ?_) #[true, false, false, true, false, false, false, true, false, false, false, true, false, false, false, true, false, false, false, true, false, true, false, true, false, false, false, false, false, false, false, false] rfl rfl (any_of HT_.out (by kernel_rfl)) (fun _ _ _ h => h) (Or.inl ⟨by rfl, ?_⟩) ?_ ?_
 rotate_left
 ·intro w'
  go_simp
  with_reducible rfl
 rotate_left
 ·simp only [Act.put, List.setIfInBounds_toArray, List.set_cons_zero, List.set_cons_succ, i64_w, i32_w]
  rfl
 refine pure_ (i := 26) (N := some 32) (v := ?_) (a' := ?_) #[true, false, false, true, false, false, false, true, false, false, false, true, false, false, false, true, false, false, false, true, false, true, false, true, false, false, true, false, false, false, false, false] rfl rfl (any_of HT_.out (by kernel_rfl)) (fun _ _ _ h => h) (Or.inl ⟨by rfl, ?_⟩) ?_ ?_
 rotate_left
 ·intro w'
  go_simp
  with_reducible rfl
 rotate_left
 ·simp only [Act.put, List.setIfInBounds_toArray, List.set_cons_zero, List.set_cons_succ, i64_w, i32_w]
  rfl
 refine take_ (i := 1) (N := some 7) (v := ?_) (a' := ?_) #[true, true, false, true, false, false, false, true, false, false, false, true, false, false, false, true, false, false, false, true, false, true, false, true, false, false, true, false, false, false, false, false] rfl rfl (take_ofW HT_.out HW_.out (by kernel_rfl)) (fun _ _ _ h => h) (Or.inl ⟨by rfl, ?_⟩) hHeld ?_ ?_
 rotate_left
 ·rintro w' ⟨s0, s1, s2, s3, s4, s5, s6, s7, s8, s9, s10, s11⟩
  go_simp
  with_reducible rfl
 rotate_left
 ·simp only [Act.put, List.setIfInBounds_toArray, List.set_cons_zero, List.set_cons_succ, i64_w, i32_w]
  rfl
 refine pure_ (i := 2) (N := some 8) (v := ?_) (a' := ?_) #[true, true, true, true, false, false, false, true, false, false, false, true, false, false, false, true, false, false, false, true, false, true, false, true, false, false, true, false, false, false, false, false] rfl rfl (any_of HT_.out (by kernel_rfl)) (fun _ _ _ h => h) (Or.inl ⟨by rfl, ?_⟩) ?_ ?_
 rotate_left
 ·intro w'
  go_simp
  with_reducible rfl
 rotate_left
 ·simp only [Act.put, List.setIfInBounds_toArray, List.set_cons_zero, List.set_cons_succ, i64_w, i32_w]
  rfl
 refine take_ (i := 4) (N := some 10) (v := ?_) (a' := ?_) #[true, true, true, true, true, false, false, true, false, false, false, true, false, false, false, true, false, false, false, true, false, true, false, true, false, false, true, false, false, false, false, false] rfl rfl (take_ofW HT_.out HW_.out (by kernel_rfl)) (fun _ _ _ h => h) (Or.inl ⟨by rfl, ?_⟩) hHeld ?_ ?_
 rotate_left
 ·rintro w' ⟨s0, s1, s2, s3, s4, s5, s6, s7, s8, s9, s10, s11⟩
  go_simp
  with_reducible rfl
 rotate_left
 ·simp only [Act.put, List.setIfInBounds_toArray, List.set_cons_zero, List.set_cons_succ, i64_w, i32_w]
  rfl
 refine pure_ (i := 5) (N := some 11) (v := ?_) (a' := ?_) #[true, true, true, true, true, true, false, true, false, false, false, true, false, false, false, true, false, false, false, true, false, true, false, true, false, false, true, false, false, false, false, false] rfl rfl (any_of HT_.out (by kernel_rfl)) (fun _ _ _ h => h) (Or.inl ⟨by rfl, ?_⟩) ?_ ?_
 rotate_left
 ·intro w'
  go_simp
  with_reducible rfl
 rotate_left
 ·simp only [Act.put, List.setIfInBounds_toArray, List.set_cons_zero, List.set_cons_succ, i64_w, i32_w]
  rfl
 refine pure_ (i := 6) (N := some 12) (v := ?_) (a' := ?_) #[true, true, true, true, true, true, true, true, false, false, false, true, false, false, false, true, false, false, false, true, false, true, false, true, false, false, true, false, false, false, false, false] rfl rfl (any_of HT_.out (by kernel_rfl)) (fun _ _ _ h => h) (Or.inl ⟨by rfl, ?_⟩) ?_ ?_
 rotate_left
 ·intro w'
  go_simp
  with_reducible rfl
 rotate_left
 ·simp only [Act.put, List.setIfInBounds_toArray, List.set_cons_zero, List.set_cons_succ, i64_w, i32_w]
  rfl
 refine take_ (i := 8) (N := some 14) (v := ?_) (a' := ?_) #[true, true, true, true, true, true, true, true, true, false, false, true, false, false, false, true, false, false, false, true, false, true, false, true, false, false, true, false, false, false, false, false] rfl rfl (take_ofW HT_.out HW_.out (by kernel_rfl)) (fun _ _ _ h => h) (Or.inl ⟨by rfl, ?_⟩) hHeld ?_ ?_
 rotate_left
 ·rintro w' ⟨s0, s1, s2, s3, s4, s5, s6, s7, s8, s9, s10, s11⟩
  go_simp
  with_reducible rfl
 rotate_left
 ·simp only [Act.put, List.setIfInBounds_toArray, List.set_cons_zero, List.set_cons_succ, i64_w, i32_w]
  rfl
 refine pure_ (i := 9) (N := some 15) (v := ?_) (a' := ?_) #[true, true, true, true, true, true, true, true, true, true, false, true, false, false, false, true, false, false, false, true, false, true, false, true, false, false, true, false, false, false, false, false] rfl rfl (any_of HT_.out (by kernel_rfl)) (fun _ _ _ h => h) (Or.inl ⟨by rfl, ?_⟩) ?_ ?_
 rotate_left
 ·intro w'
  go_simp
  with_reducible rfl
 rotate_left
 ·simp only [Act.put, List.setIfInBounds_toArray, List.set_cons_zero, List.set_cons_succ, i64_w, i32_w]
  rfl
 refine pure_ (i := 10) (N := some 16) (v := ?_) (a' := ?_) #[true, true, true, true, true, true, true, true, true, true, true, true, false, false, false, true, false, false, false, true, false, true, false, true, false, false, true, false, false, false, false, false] rfl rfl (any_of HT_.out (by kernel_rfl)) (fun _ _ _ h => h) (Or.inl ⟨by rfl, ?_⟩) ?_ ?_
 rotate_left
 ·intro w'
  go_simp
  with_reducible rfl
 rotate_left
 ·simp only [Act.put, List.setIfInBounds_toArray, List.set_cons_zero, List.set_cons_succ, i64_w, i32_w]
  rfl
 refine take_ (i := 12) (N := some 18) (v := ?_) (a' := ?_) #[true, true, true, true, true, true, true, true, true, true, true, true, true, false, false, true, false, false, false, true, false, true, false, true, false, false, true, false, false, false, false, false] rfl rfl (take_ofW HT_.out HW_.out (by kernel_rfl)) (fun _ _ _ h => h) (Or.inl ⟨by rfl, ?_⟩) hHeld ?_ ?_
 rotate_left
 ·rintro w' ⟨s0, s1, s2, s3, s4, s5, s6, s7, s8, s9, s10, s11⟩
  go_simp
  with_reducible rfl
 rotate_left
 ·simp only [Act.put, List.setIfInBounds_toArray, List.set_cons_zero, List.set_cons_succ, i64_w, i32_w]
  rfl
 refine pure_ (i := 13) (N := some 19) (v := ?_) (a' := ?_) #[true, true, true, true, true, true, true, true, true, true, true, true, true, true, false, true, false, false, false, true, false, true, false, true, false, false, true, false, false, false, false, false] rfl rfl (any_of HT_.out (by kernel_rfl)) (fun _ _ _ h => h) (Or.inl ⟨by rfl, ?_⟩) ?_ ?_
 rotate_left
 ·intro w'
  go_simp
  with_reducible rfl
 rotate_left
 ·simp only [Act.put, List.setIfInBounds_toArray, List.set_cons_zero, List.set_cons_succ, i64_w, i32_w]
  rfl
 refine pure_ (i := 14) (N := some 20) (v := ?_) (a' := ?_) #[true, true, true, true, true, true, true, true, true, true, true, true, true, true, true, true, false, false, false, true, false, true, false, true, false, false, true, false, false, false, false, false] rfl rfl (any_of HT_.out (by kernel_rfl)) (fun _ _ _ h => h) (Or.inl ⟨by rfl, ?_⟩) ?_ ?_
 rotate_left
 ·intro w'
  go_simp
  with_reducible rfl
 rotate_left
 ·simp only [Act.put, List.setIfInBounds_toArray, List.set_cons_zero, List.set_cons_succ, i64_w, i32_w]
  rfl
 refine take_ (i := 16) (N := some 22) (v := ?_) (a' := ?_) #[true, true, true, true, true, true, true, true, true, true, true, true, true, true, true, true, true, false, false, true, false, true, false, true, false, false, true, false, false, false, false, false] rfl rfl (take_ofW HT_.out HW_.out (by kernel_rfl)) (fun _ _ _ h => h) (Or.inl ⟨by rfl, ?_⟩) hHeld ?_ ?_
 rotate_left
 ·rintro w' ⟨s0, s1, s2, s3, s4, s5, s6, s7, s8, s9, s10, s11⟩
  go_simp
  with_reducible rfl
 rotate_left
 ·simp only [Act.put, List.setIfInBounds_toArray, List.set_cons_zero, List.set_cons_succ, i64_w, i32_w]
  rfl
 refine pure_ (i := 17) (N := some 23) (v := ?_) (a' := ?_) #[true, true, true, true, true, true, true, true, true, true, true, true, true, true, true, true, true, true, false, true, false, true, false, true, false, false, true, false, false, false, false, false] rfl rfl (any_of HT_.out (by kernel_rfl)) (fun _ _ _ h => h) (Or.inl ⟨by rfl, ?_⟩) ?_ ?_
 rotate_left
 ·intro w'
  go_simp
  with_reducible rfl
 rotate_left
 ·simp only [Act.put, List.setIfInBounds_toArray, List.set_cons_zero, List.set_cons_succ, i64_w, i32_w]
  rfl
 refine pure_ (i := 18) (N := some 24) (v := ?_) (a' := ?_) #[true, true, true, true, true, true, true, true, true, true, true, true, true, true, true, true, true, true, true, true, false, true, false, true, false, false, true, false, false, false, false, false] rfl rfl (any_of HT_.out (by kernel_rfl)) (fun _ _ _ h => h) (Or.inl ⟨by rfl, ?_⟩) ?_ ?_
 rotate_left
 ·intro w'
  go_simp
  with_reducible rfl
 rotate_left
 ·simp only [Act.put, List.setIfInBounds_toArray, List.set_cons_zero, List.set_cons_succ, i64_w, i32_w]
  rfl
 refine take_ (i := 20) (N := some 26) (v := ?_) (a' := ?_) #[true, true, true, true, true, true, true, true, true, true, true, true, true, true, true, true, true, true, true, true, true, true, false, true, false, false, true, false, false, false, false, false] rfl rfl (take_ofW HT_.out HW_.out (by kernel_rfl)) (fun _ _ _ h => h) (Or.inl ⟨by rfl, ?_⟩) hHeld ?_ ?_
 rotate_left
 ·rintro w' ⟨s0, s1, s2, s3, s4, s5, s6, s7, s8, s9, s10, s11⟩
  go_simp
  with_reducible rfl
 rotate_left
 ·simp only [Act.put, List.setIfInBounds_toArray, List.set_cons_zero, List.set_cons_succ, i64_w, i32_w]
  rfl
 refine pure_ (i := 22) (N := some 28) (v := ?_) (a' := ?_) #[true, true, true, true, true, true, true, true, true, true, true, true, true, true, true, true, true, true, true, true, true, true, true, true, false, false, true, false, false, false, false, false] rfl rfl (any_of HT_.out (by kernel_rfl)) (fun _ _ _ h => h) (Or.inl ⟨by rfl, ?_⟩) ?_ ?_
 rotate_left
 ·intro w'
  go_simp
  with_reducible rfl
 rotate_left
 ·simp only [Act.put, List.setIfInBounds_toArray, List.set_cons_zero, List.set_cons_succ, i64_w, i32_w]
  rfl
 refine take_ (i := 24) (N := some 30) (v := ?_) (a' := ?_) #[true, true, true, true, true, true, true, true, true, true, true, true, true, true, true, true, true, true, true, true, true, true, true, true, true, false, true, false, false, false, false, false] rfl rfl (take_ofW HT_.out HW_.out (by kernel_rfl)) (fun _ _ _ h => h) (Or.inl ⟨by rfl, ?_⟩) hHeld ?_ ?_
 rotate_left
 ·rintro w' ⟨s0, s1, s2, s3, s4, s5, s6, s7, s8, s9, s10, s11⟩
  go_simp
  with_reducible rfl
 rotate_left
 ·simp only [Act.put, List.setIfInBounds_toArray, List.set_cons_zero, List.set_cons_succ, i64_w, i32_w]
  rfl
 refine pure_ (i := 25) (N := some 31) (v := ?_) (a' := ?_) #[true, true, true, true, true, true, true, true, true, true, true, true, true, true, true, true, true, true, true, true, true, true, true, true, true, true, true, false, false, false, false, false] rfl rfl (any_of HT_.out (by kernel_rfl)) (fun _ _ _ h => h) (Or.inl ⟨by rfl, ?_⟩) ?_ ?_
 rotate_left
 ·intro w'
  go_simp
  with_reducible rfl
 rotate_left
 ·simp only [Act.put, List.setIfInBounds_toArray, List.set_cons_zero, List.set_cons_succ, i64_w, i32_w]
  rfl
 refine take_ (i := 27) (N := some 33) (v := ?_) (a' := ?_) #[true, true, true, true, true, true, true, true, true, true, true, true, true, true, true, true, true, true, true, true, true, true, true, true, true, true, true, true, false, false, false, false] rfl rfl (take_ofW HT_.out HW_.out (by kernel_rfl)) (fun _ _ _ h => h) (Or.inl ⟨by rfl, ?_⟩) hHeld ?_ ?_
 rotate_left
 ·rintro w' ⟨s0, s1, s2, s3, s4, s5, s6, s7, s8, s9, s10, s11⟩
  go_simp
  with_reducible rfl
 rotate_left
 ·simp only [Act.put, List.setIfInBounds_toArray, List.set_cons_zero, List.set_cons_succ, i64_w, i32_w]
  rfl
 refine pure_ (i := 28) (N := some 34) (v := ?_) (a' := ?_) #[true, true, true, true, true, true, true, true, true, true, true, true, true, true, true, true, true, true, true, true, true, true, true, true, true, true, true, true, true, false, false, false] rfl rfl (any_of HT_.out (by kernel_rfl)) (fun _ _ _ h => h) (Or.inl ⟨by rfl, ?_⟩) ?_ ?_
 rotate_left
 ·intro w'
  go_simp
  with_reducible rfl
 rotate_left
 ·simp only [Act.put, List.setIfInBounds_toArray, List.set_cons_zero, List.set_cons_succ, i64_w, i32_w]
  rfl
 refine pure_ (i := 29) (N := some 35) (v := ?_) (a' := ?_) #[true, true, true, true, true, true, true, true, true, true, true, true, true, true, true, true, true, true, true, true, true, true, true, true, true, true, true, true, true, true, false, false] rfl rfl (any_of HT_.out (by kernel_rfl)) (fun _ _ _ h => h) (Or.inl ⟨by rfl, ?_⟩) ?_ ?_
 rotate_left
 ·intro w'
  go_simp
  with_reducible rfl
 rotate_left
 ·simp only [Act.put, List.setIfInBounds_toArray, List.set_cons_zero, List.set_cons_succ, i64_w, i32_w]
  rfl
 refine one_ (i := 30) (N := some 3) #[true, true, true, true, true, true, true, true, true, true, true, true, true, true, true, true, true, true, true, true, true, true, true, true, true, true, true, true, true, true, true, false] rfl rfl (one_of HT_.out (by kernel_rfl)) (by decide) (fun K hK => ?_)
 refine box_step ?hg (N := 3) ?hd (cs := #[.bool false, .bool false, .bool false, .bool false, .bool false, .bool false, .bool false, .bool false]) (t := 54) ?hr ?_; (case hd => rfl); (case hg => rfl); (case hr => first | (go_simp; done) | (go_simp; rfl))
 intro gb102 hg w5 hbox hb
 have n0_ := Aside0.mk (blk_below (g := gb101) (o := .cells #[.int .i64 a0_0, .int .i64 a0_1, .int .i64 a0_2, .slice A0_3 l0_3.length c0_3, .slice A0_4 l0_4.length c0_4, .slice A0_5 l0_5.length c0_5, .slice A0_6 l0_6.length c0_6, .int .i64 a0_7, .int .i64 a0_8, .int .i64 a0_9, .int .i64 a0_10, .int .i64 a0_11] 40 (0, 0)) (by (with_reducible repeat (first | refine blk_drewN ?_ _ | refine blk_drew ?_ | refine blk_alloc ?_ _)); exact BK101.out) hb)
 have n1_ := Aside0.mk (below_step (by repeat (first | (with_reducible first | exact HB.out | apply below_alloc | apply pw_below_drewN | apply below_drew1 | refine below_set ?_ GE101.out) | exact HB.out)) hb)
 have n2_ := Aside0.mk (hbox)
 have n3_ := Aside0.mk ((by rw [hg]; exact (below_size (by repeat (first | (with_reducible first | exact HB.out | apply below_alloc | apply pw_below_drewN | apply below_drew1 | refine below_set ?_ GE101.out) | exact HB.out))) : w.heap.size ≤ gb102))
 have n4_ := Aside0.mk ((by rw [hg]; exact (below_size (by repeat (first | (with_reducible first | exact HB.out | apply below_alloc | apply pw_below_drewN | apply below_drew1 | refine below_set ?_ GE101.out) | exact HB.out))) : w.heap.size ≤ gb102))
 have n5_ := Aside0.mk ((by rw [hg]; exact Nat.ne_of_lt (blk_lt (g := gb101) (o := .cells #[.int .i64 a0_0, .int .i64 a0_1, .int .i64 a0_2, .slice A0_3 l0_3.length c0_3, .slice A0_4 l0_4.length c0_4, .slice A0_5 l0_5.length c0_5, .slice A0_6 l0_6.length c0_6, .int .i64 a0_7, .int .i64 a0_8, .int .i64 a0_9, .int .i64 a0_10, .int .i64 a0_11] 40 (0, 0)) (by (with_reducible repeat (first | refine blk_drewN ?_ _ | refine blk_drew ?_ | refine blk_alloc ?_ _)); exact BK101.out)) : gb101 ≠ gb102))
 have n6_ := Aside0.mk ((by rw [hg]; exact Nat.ne_of_gt (blk_lt (g := gb101) (o := .cells #[.int .i64 a0_0, .int .i64 a0_1, .int .i64 a0_2, .slice A0_3 l0_3.length c0_3, .slice A0_4 l0_4.length c0_4, .slice A0_5 l0_5.length c0_5, .slice A0_6 l0_6.length c0_6, .int .i64 a0_7, .int .i64 a0_8, .int .i64 a0_9, .int .i64 a0_10, .int .i64 a0_11] 40 (0, 0)) (by (with_reducible repeat (first | refine blk_drewN ?_ _ | refine blk_drew ?_ | refine blk_alloc ?_ _)); exact BK101.out)) : gb102 ≠ gb101))
 clear BK101
 clear HB
 have BK101 := n0_
 have HB := n1_
 have BK102 := n2_
 have GW102 := n3_
 have GE102 := n4_
 have NB101_102 := n5_
 have NB102_101 := n6_
 clear n0_ n1_ n2_ n3_ n4_ n5_ n6_
 clear hb hbox hg
 refine hK.out _ _ ⟨(blk_cell BK101.out 0).trans rfl, (blk_cell BK101.out 1).trans rfl, (blk_cell BK101.out 2).trans rfl, (blk_cell BK101.out 3).trans rfl, (blk_cell BK101.out 4).trans rfl, (blk_cell BK101.out 5).trans rfl, (blk_cell BK101.out 6).trans rfl, (blk_cell BK101.out 7).trans rfl, (blk_cell BK101.out 8).trans rfl, (blk_cell BK101.out 9).trans rfl, (blk_cell BK101.out 10).trans rfl, (blk_cell BK101.out 11).trans rfl⟩ (fun hHeld => ?_)
 clear hK K
 refine norm_ (a' := ?_) ?_ ?_
 rotate_left
 ·show Act.put _ (some 3) _ = _
  simp only [Act.put, List.setIfInBounds_toArray, List.set_cons_zero, List.set_cons_succ, i64_w, i32_w]
  rfl
 refine one_ (i := 31) (N := none) #[true, true, true, true, true, true, true, true, true, true, true, true, true, true, true, true, true, true, true, true, true, true, true, true, true, true, true, true, true, true, true, true] rfl rfl (one_of HT_.out (by kernel_rfl)) (by decide) (fun K hK => ?_)
 have hs6 : w5.cell? ⟨gb102, 0, none⟩ = some (.bool false) := (blk_cell BK102.out 0).trans rfl
 have hfs6 := blk_frozen BK102.out 0
 have hns6_0 := NB101_102.out
 have hms6_0 := NB102_101.out
 have hs7 : w5.cell? ⟨gb102, 1, none⟩ = some (.bool false) := (blk_cell BK102.out 1).trans rfl
 have hfs7 := blk_frozen BK102.out 1
 have hns7_0 := NB101_102.out
 have hms7_0 := NB102_101.out
 have hs8 : w5.cell? ⟨gb102, 2, none⟩ = some (.bool false) := (blk_cell BK102.out 2).trans rfl
 have hfs8 := blk_frozen BK102.out 2
 have hns8_0 := NB101_102.out
 have hms8_0 := NB102_101.out
 have hs9 : w5.cell? ⟨gb102, 3, none⟩ = some (.bool false) := (blk_cell BK102.out 3).trans rfl
 have hfs9 := blk_frozen BK102.out 3
 have hns9_0 := NB101_102.out
 have hms9_0 := NB102_101.out
 have hs10 : w5.cell? ⟨gb102, 4, none⟩ = some (.bool false) := (blk_cell BK102.out 4).trans rfl
 have hfs10 := blk_frozen BK102.out 4
 have hns10_0 := NB101_102.out
 have hms10_0 := NB102_101.out
 have hs11 : w5.cell? ⟨gb102, 5, none⟩ = some (.bool false) := (blk_cell BK102.out 5).trans rfl
 have hfs11 := blk_frozen BK102.out 5
 have hns11_0 := NB101_102.out
 have hms11_0 := NB102_101.out
 have hs12 : w5.cell? ⟨gb102, 6, none⟩ = some (.bool false) := (blk_cell BK102.out 6).trans rfl
 have hfs12 := blk_frozen BK102.out 6
 have hns12_0 := NB101_102.out
 have hms12_0 := NB102_101.out
 have hs13 : w5.cell? ⟨gb102, 7, none⟩ = some (.bool false) := (blk_cell BK102.out 7).trans rfl
 have hfs13 := blk_frozen BK102.out 7
 have hns13_0 := NB101_102.out
 have hms13_0 := NB102_101.out
 refine skip_ (w1 := ?_) (by rfl) rfl ?_ ?_
 rotate_left
 ·go_simp
  rfl
 refine hK.out _ _ ⟨((cell_far (p := ⟨gb102, _, none⟩) NB101_102.out _).trans (((cell_far (p := ⟨gb102, _, none⟩) NB101_102.out _).trans (((cell_far (p := ⟨gb102, _, none⟩) NB101_102.out _).trans (((cell_far (p := ⟨gb102, _, none⟩) NB101_102.out _).trans (((cell_far (p := ⟨gb102, _, none⟩) NB101_102.out _).trans (((cell_far (p := ⟨gb102, _, none⟩) NB101_102.out _).trans (((cell_far (p := ⟨gb102, _, none⟩) NB101_102.out _).trans (((cell_far (p := ⟨gb102, _, none⟩) NB101_102.out _).trans (hHeld.1)))))))))))))))), ((cell_far (p := ⟨gb102, _, none⟩) NB101_102.out _).trans (((cell_far (p := ⟨gb102, _, none⟩) NB101_102.out _).trans (((cell_far (p := ⟨gb102, _, none⟩) NB101_102.out _).trans (((cell_far (p := ⟨gb102, _, none⟩) NB101_102.out _).trans (((cell_far (p := ⟨gb102, _, none⟩) NB101_102.out _).trans (((cell_far (p := ⟨gb102, _, none⟩) NB101_102.out _).trans (((cell_far (p := ⟨gb102, _, none⟩) NB101_102.out _).trans (((cell_far (p := ⟨gb102, _, none⟩) NB101_102.out _).trans (hHeld.2.1)))))))))))))))), ((cell_far (p := ⟨gb102, _, none⟩) NB101_102.out _).trans (((cell_far (p := ⟨gb102, _, none⟩) NB101_102.out _).trans (((cell_far (p := ⟨gb102, _, none⟩) NB101_102.out _).trans (((cell_far (p := ⟨gb102, _, none⟩) NB101_102.out _).trans (((cell_far (p := ⟨gb102, _, none⟩) NB101_102.out _).trans (((cell_far (p := ⟨gb102, _, none⟩) NB101_102.out _).trans (((cell_far (p := ⟨gb102, _, none⟩) NB101_102.out _).trans (((cell_far (p := ⟨gb102, _, none⟩) NB101_102.out _).trans (hHeld.2.2.1)))))))))))))))), ((cell_far (p := ⟨gb102, _, none⟩) NB101_102.out _).trans (((cell_far (p := ⟨gb102, _, none⟩) NB101_102.out _).trans (((cell_far (p := ⟨gb102, _, none⟩) NB101_102.out _).trans (((cell_far (p := ⟨gb102, _, none⟩) NB101_102.out _).trans (((cell_far (p := ⟨gb102, _, none⟩) NB101_102.out _).trans (((cell_far (p := ⟨gb102, _, none⟩) NB101_102.out _).trans (((cell_far (p := ⟨gb102, _, none⟩) NB101_102.out _).trans (((cell_far (p := ⟨gb102, _, none⟩) NB101_102.out _).trans (hHeld.2.2.2.1)))))))))))))))), ((cell_far (p := ⟨gb102, _, none⟩) NB101_102.out _).trans (((cell_far (p := ⟨gb102, _, none⟩) NB101_102.out _).trans (((cell_far (p := ⟨gb102, _, none⟩) NB101_102.out _).trans (((cell_far (p := ⟨gb102, _, none⟩) NB101_102.out _).trans (((cell_far (p := ⟨gb102, _, none⟩) NB101_102.out _).trans (((cell_far (p := ⟨gb102, _, none⟩) NB101_102.out _).trans (((cell_far (p := ⟨gb102, _, none⟩) NB101_102.out _).trans (((cell_far (p := ⟨gb102, _, none⟩) NB101_102.out _).trans (hHeld.2.2.2.2.1)))))))))))))))), ((cell_far (p := ⟨gb102, _, none⟩) NB101_102.out _).trans (((cell_far (p := ⟨gb102, _, none⟩) NB101_102.out _).trans (((cell_far (p := ⟨gb102, _, none⟩) NB101_102.out _).trans (((cell_far (p := ⟨gb102, _, none⟩) NB101_102.out _).trans (((cell_far (p := ⟨gb102, _, none⟩) NB101_102.out _).trans (((cell_far (p := ⟨gb102, _, none⟩) NB101_102.out _).trans (((cell_far (p := ⟨gb102, _, none⟩) NB101_102.out _).trans (((cell_far (p := ⟨gb102, _, none⟩) NB101_102.out _).trans (hHeld.2.2.2.2.2.1)))))))))))))))), ((cell_far (p := ⟨gb102, _, none⟩) NB101_102.out _).trans (((cell_far (p := ⟨gb102, _, none⟩) NB101_102.out _).trans (((cell_far (p := ⟨gb102, _, none⟩) NB101_102.out _).trans (((cell_far (p := ⟨gb102, _, none⟩) NB101_102.out _).trans (((cell_far (p := ⟨gb102, _, none⟩) NB101_102.out _).trans (((cell_far (p := ⟨gb102, _, none⟩) NB101_102.out _).trans (((cell_far (p := ⟨gb102, _, none⟩) NB101_102.out _).trans (((cell_far (p := ⟨gb102, _, none⟩) NB101_102.out _).trans (hHeld.2.2.2.2.2.2.1)))))))))))))))), ((cell_far (p := ⟨gb102, _, none⟩) NB101_102.out _).trans (((cell_far (p := ⟨gb102, _, none⟩) NB101_102.out _).trans (((cell_far (p := ⟨gb102, _, none⟩) NB101_102.out _).trans (((cell_far (p := ⟨gb102, _, none⟩) NB101_102.out _).trans (((cell_far (p := ⟨gb102, _, none⟩) NB101_102.out _).trans (((cell_far (p := ⟨gb102, _, none⟩) NB101_102.out _).trans (((cell_far (p := ⟨gb102, _, none⟩) NB101_102.out _).trans (((cell_far (p := ⟨gb102, _, none⟩) NB101_102.out _).trans (hHeld.2.2.2.2.2.2.2.1)))))))))))))))), ((cell_far (p := ⟨gb102, _, none⟩) NB101_102.out _).trans (((cell_far (p := ⟨gb102, _, none⟩) NB101_102.out _).trans (((cell_far (p := ⟨gb102, _, none⟩) NB101_102.out _).trans (((cell_far (p := ⟨gb102, _, none⟩) NB101_102.out _).trans (((cell_far (p := ⟨gb102, _, none⟩) NB101_102.out _).trans (((cell_far (p := ⟨gb102, _, none⟩) NB101_102.out _).trans (((cell_far (p := ⟨gb102, _, none⟩) NB101_102.out _).trans (((cell_far (p := ⟨gb102, _, none⟩) NB101_102.out _).trans (hHeld.2.2.2.2.2.2.2.2.1)))))))))))))))), ((cell_far (p := ⟨gb102, _, none⟩) NB101_102.out _).trans (((cell_far (p := ⟨gb102, _, none⟩) NB101_102.out _).trans (((cell_far (p := ⟨gb102, _, none⟩) NB101_102.out _).trans (((cell_far (p := ⟨gb102, _, none⟩) NB101_102.out _).trans (((cell_far (p := ⟨gb102, _, none⟩) NB101_102.out _).trans (((cell_far (p := ⟨gb102, _, none⟩) NB101_102.out _).trans (((cell_far (p := ⟨gb102, _, none⟩) NB101_102.out _).trans (((cell_far (p := ⟨gb102, _, none⟩) NB101_102.out _).trans (hHeld.2.2.2.2.2.2.2.2.2.1)))))))))))))))), ((cell_far (p := ⟨gb102, _, none⟩) NB101_102.out _).trans (((cell_far (p := ⟨gb102, _, none⟩) NB101_102.out _).trans (((cell_far (p := ⟨gb102, _, none⟩) NB101_102.out _).trans (((cell_far (p := ⟨gb102, _, none⟩) NB101_102.out _).trans (((cell_far (p := ⟨gb102, _, none⟩) NB101_102.out _).trans (((cell_far (p := ⟨gb102, _, none⟩) NB101_102.out _).trans (((cell_far (p := ⟨gb102, _, none⟩) NB101_102.out _).trans (((cell_far (p := ⟨gb102, _, none⟩) NB101_102.out _).trans (hHeld.2.2.2.2.2.2.2.2.2.2.1)))))))))))))))), ((cell_far (p := ⟨gb102, _, none⟩) NB101_102.out _).trans (((cell_far (p := ⟨gb102, _, none⟩) NB101_102.out _).trans (((cell_far (p := ⟨gb102, _, none⟩) NB101_102.out _).trans (((cell_far (p := ⟨gb102, _, none⟩) NB101_102.out _).trans (((cell_far (p := ⟨gb102, _, none⟩) NB101_102.out _).trans (((cell_far (p := ⟨gb102, _, none⟩) NB101_102.out _).trans (((cell_far (p := ⟨gb102, _, none⟩) NB101_102.out _).trans (((cell_far (p := ⟨gb102, _, none⟩) NB101_102.out _).trans (hHeld.2.2.2.2.2.2.2.2.2.2.2))))))))))))))))⟩ (fun hHeld => ?_)
 clear hK K
 refine done_ (done_of HT_.out (by kernel_rfl)) ?_
 have hnb14 := NB101_102.out
 have hnc14 := NB102_101.out
 have hcz15_0 : w5.cell? ⟨gb101, 0, none⟩ = some (.int .i64 a0_0) := (blk_cell BK101.out 0).trans rfl
 have hcz15_1 : w5.cell? ⟨gb101, 1, none⟩ = some (.int .i64 a0_1) := (blk_cell BK101.out 1).trans rfl
 have hcz15_2 : w5.cell? ⟨gb101, 2, none⟩ = some (.int .i64 a0_2) := (blk_cell BK101.out 2).trans rfl
 have hcz15_3 : w5.cell? ⟨gb101, 3, none⟩ = some (.slice A0_3 l0_3.length c0_3) := (blk_cell BK101.out 3).trans rfl
 have hcz15_4 : w5.cell? ⟨gb101, 4, none⟩ = some (.slice A0_4 l0_4.length c0_4) := (blk_cell BK101.out 4).trans rfl
 have hcz15_5 : w5.cell? ⟨gb101, 5, none⟩ = some (.slice A0_5 l0_5.length c0_5) := (blk_cell BK101.out 5).trans rfl
 have hcz15_6 : w5.cell? ⟨gb101, 6, none⟩ = some (.slice A0_6 l0_6.length c0_6) := (blk_cell BK101.out 6).trans rfl
 have hcz15_7 : w5.cell? ⟨gb101, 7, none⟩ = some (.int .i64 a0_7) := (blk_cell BK101.out 7).trans rfl
 have hcz15_8 : w5.cell? ⟨gb101, 8, none⟩ = some (.int .i64 a0_8) := (blk_cell BK101.out 8).trans rfl
 have hcz15_9 : w5.cell? ⟨gb101, 9, none⟩ = some (.int .i64 a0_9) := (blk_cell BK101.out 9).trans rfl
 have hcz15_10 : w5.cell? ⟨gb101, 10, none⟩ = some (.int .i64 a0_10) := (blk_cell BK101.out 10).trans rfl
 have hcz15_11 : w5.cell? ⟨gb101, 11, none⟩ = some (.int .i64 a0_11) := (blk_cell BK101.out 11).trans rfl
 have hfz15_0 := blk_frozen BK101.out 0
 have hfz15_1 := blk_frozen BK101.out 1
 have hfz15_2 := blk_frozen BK101.out 2
 have hfz15_3 := blk_frozen BK101.out 3
 have hfz15_4 := blk_frozen BK101.out 4
 have hfz15_5 := blk_frozen BK101.out 5
 have hfz15_6 := blk_frozen BK101.out 6
 have hfz15_7 := blk_frozen BK101.out 7
 have hfz15_8 := blk_frozen BK101.out 8
 have hfz15_9 := blk_frozen BK101.out 9
 have hfz15_10 := blk_frozen BK101.out 10
 have hfz15_11 := blk_frozen BK101.out 11
 go_upto_region 3 with (go_at_call 20; (with_reducible refine (plan_fields.calls k a0_0 t103 t104 t105 t106 t107 t108 t109 t110 _ A2.out).mono ?_); rintro e w16 ⟨rfl, hb⟩; have n1_ := Aside0.mk (blk_below (g := gb102) (o := .cells #[.bool (a0_2 != 0), .bool (decide (0 < l0_3.length)), .bool (decide (0 < l0_4.length)), .bool (decide (0 < l0_5.length)), .bool (decide (0 < l0_6.length)), .bool (!a0_7 == 0 || (!a0_8 == 0 || !a0_9 == 0)), .bool (a0_10 != 0), .bool (a0_11 != 0)] 54 (0, 0)) (by refine blk_put (cs := #[.bool (a0_2 != 0), .bool (decide (0 < l0_3.length)), .bool (decide (0 < l0_4.length)), .bool (decide (0 < l0_5.length)), .bool (decide (0 < l0_6.length)), .bool (!a0_7 == 0 || (!a0_8 == 0 || !a0_9 == 0)), .bool (a0_10 != 0), .bool false]) ?_ 7 _ rfl; refine blk_put (cs := #[.bool (a0_2 != 0), .bool (decide (0 < l0_3.length)), .bool (decide (0 < l0_4.length)), .bool (decide (0 < l0_5.length)), .bool (decide (0 < l0_6.length)), .bool (!a0_7 == 0 || (!a0_8 == 0 || !a0_9 == 0)), .bool false, .bool false]) ?_ 6 _ rfl; refine blk_put (cs := #[.bool (a0_2 != 0), .bool (decide (0 < l0_3.length)), .bool (decide (0 < l0_4.length)), .bool (decide (0 < l0_5.length)), .bool (decide (0 < l0_6.length)), .bool false, .bool false, .bool false]) ?_ 5 _ rfl; refine blk_put (cs := #[.bool (a0_2 != 0), .bool (decide (0 < l0_3.length)), .bool (decide (0 < l0_4.length)), .bool (decide (0 < l0_5.length)), .bool false, .bool false, .bool false, .bool false]) ?_ 4 _ rfl; refine blk_put (cs := #[.bool (a0_2 != 0), .bool (decide (0 < l0_3.length)), .bool (decide (0 < l0_4.length)), .bool false, .bool false, .bool false, .bool false, .bool false]) ?_ 3 _ rfl; refine blk_put (cs := #[.bool (a0_2 != 0), .bool (decide (0 < l0_3.length)), .bool false, .bool false, .bool false, .bool false, .bool false, .bool false]) ?_ 2 _ rfl; refine blk_put (cs := #[.bool (a0_2 != 0), .bool false, .bool false, .bool false, .bool false, .bool false, .bool false, .bool false]) ?_ 1 _ rfl; refine blk_put (cs := #[.bool false, .bool false, .bool false, .bool false, .bool false, .bool false, .bool false, .bool false]) ?_ 0 _ rfl; exact BK102.out) hb); have n2_ := Aside0.mk (below_step (by repeat (first | (with_reducible exact HB.out) | refine below_set ?_ GE102.out)) hb); clear hb)
 have hlt : gb102 < w16.heap.size := (Array.getElem?_eq_some_iff.1 n1_.out).1
 have hne : gb102 ≠ w16.heap.size := Nat.ne_of_lt hlt
 have hge : w.heap.size ≤ w16.heap.size := n2_.out.size
 refine gen_world (Φ := fun W => Below w.heap.size w W ∧ W.heap[gb102]? = some (.cells #[.bool (a0_2 != 0), .bool (decide (0 < l0_3.length)), .bool (decide (0 < l0_4.length)), .bool (decide (0 < l0_5.length)), .bool (decide (0 < l0_6.length)), .bool (!a0_7 == 0 || (!a0_8 == 0 || !a0_9 == 0)), .bool (a0_10 != 0), .bool (a0_11 != 0)] 54 (0, 0)) ∧ W.heap[w16.heap.size]? = some (.cells #[.bool t103, .bool t104, .bool t105, .bool t106, .bool t107, .bool t108, .bool t109, .bool t110] 54 (0, 0))) ⟨?hB, ?h3, ?h4⟩ ?_
 case hB => exact n2_.out.alloc hge _
 case h3 => exact blk_alloc n1_.out _
 case h4 => exact blk_new _ _
 rintro W ⟨hB, h3, h4⟩
 have HBW := Lib.hid hB
 have e0 : ∀ o : Obj, (W.alloc o).cell? ⟨gb102, 0, none⟩ = some (.bool (a0_2 != 0)) := fun o => (blk_cell (blk_alloc h3 o) 0).trans rfl
 have e1 : ∀ o : Obj, (W.alloc o).cell? ⟨gb102, 1, none⟩ = some (.bool (decide (0 < l0_3.length))) := fun o => (blk_cell (blk_alloc h3 o) 1).trans rfl
 have e2 : ∀ o : Obj, (W.alloc o).cell? ⟨gb102, 2, none⟩ = some (.bool (decide (0 < l0_4.length))) := fun o => (blk_cell (blk_alloc h3 o) 2).trans rfl
 have e3 : ∀ o : Obj, (W.alloc o).cell? ⟨gb102, 3, none⟩ = some (.bool (decide (0 < l0_5.length))) := fun o => (blk_cell (blk_alloc h3 o) 3).trans rfl
 have e4 : ∀ o : Obj, (W.alloc o).cell? ⟨gb102, 4, none⟩ = some (.bool (decide (0 < l0_6.length))) := fun o => (blk_cell (blk_alloc h3 o) 4).trans rfl
 have e5 : ∀ o : Obj, (W.alloc o).cell? ⟨gb102, 5, none⟩ = some (.bool (!a0_7 == 0 || (!a0_8 == 0 || !a0_9 == 0))) := fun o => (blk_cell (blk_alloc h3 o) 5).trans rfl
 have e6 : ∀ o : Obj, (W.alloc o).cell? ⟨gb102, 6, none⟩ = some (.bool (a0_10 != 0)) := fun o => (blk_cell (blk_alloc h3 o) 6).trans rfl
 have e7 : ∀ o : Obj, (W.alloc o).cell? ⟨gb102, 7, none⟩ = some (.bool (a0_11 != 0)) := fun o => (blk_cell (blk_alloc h3 o) 7).trans rfl
 have c0 : W.cell? ⟨gb102, 0, none⟩ = some (.bool (a0_2 != 0)) := (blk_cell h3 0).trans rfl
 have d0 : W.cell? ⟨w16.heap.size, 0, none⟩ = some (.bool t103) := (blk_cell h4 0).trans rfl
 have c1 : W.cell? ⟨gb102, 1, none⟩ = some (.bool (decide (0 < l0_3.length))) := (blk_cell h3 1).trans rfl
 have d1 : W.cell? ⟨w16.heap.size, 1, none⟩ = some (.bool t104) := (blk_cell h4 1).trans rfl
 have c2 : W.cell? ⟨gb102, 2, none⟩ = some (.bool (decide (0 < l0_4.length))) := (blk_cell h3 2).trans rfl
 have d2 : W.cell? ⟨w16.heap.size, 2, none⟩ = some (.bool t105) := (blk_cell h4 2).trans rfl
 have c3 : W.cell? ⟨gb102, 3, none⟩ = some (.bool (decide (0 < l0_5.length))) := (blk_cell h3 3).trans rfl
 have d3 : W.cell? ⟨w16.heap.size, 3, none⟩ = some (.bool t106) := (blk_cell h4 3).trans rfl
 have c4 : W.cell? ⟨gb102, 4, none⟩ = some (.bool (decide (0 < l0_6.length))) := (blk_cell h3 4).trans rfl
 have d4 : W.cell? ⟨w16.heap.size, 4, none⟩ = some (.bool t107) := (blk_cell h4 4).trans rfl
 have c5 : W.cell? ⟨gb102, 5, none⟩ = some (.bool (!a0_7 == 0 || (!a0_8 == 0 || !a0_9 == 0))) := (blk_cell h3 5).trans rfl
 have d5 : W.cell? ⟨w16.heap.size, 5, none⟩ = some (.bool t108) := (blk_cell h4 5).trans rfl
 have c6 : W.cell? ⟨gb102, 6, none⟩ = some (.bool (a0_10 != 0)) := (blk_cell h3 6).trans rfl
 have d6 : W.cell? ⟨w16.heap.size, 6, none⟩ = some (.bool t109) := (blk_cell h4 6).trans rfl
 have c7 : W.cell? ⟨gb102, 7, none⟩ = some (.bool (a0_11 != 0)) := (blk_cell h3 7).trans rfl
 have d7 : W.cell? ⟨w16.heap.size, 7, none⟩ = some (.bool t110) := (blk_cell h4 7).trans rfl
 clear hB h3 h4 n1_ n2_ hlt hge A2
 generalize w16.heap.size = g4 at *
 generalize hb0 : (a0_2 != 0) = b0 at c0 e0
 generalize hb1 : (decide (0 < l0_3.length)) = b1 at c1 e1
 generalize hb2 : (decide (0 < l0_4.length)) = b2 at c2 e2
 generalize hb3 : (decide (0 < l0_5.length)) = b3 at c3 e3
 generalize hb4 : (decide (0 < l0_6.length)) = b4 at c4 e4
 generalize hb5 : (!a0_7 == 0 || (!a0_8 == 0 || !a0_9 == 0)) = b5 at c5 e5
 generalize hb6 : (a0_10 != 0) = b6 at c6 e6
 generalize hb7 : (a0_11 != 0) = b7 at c7 e7
 clear HR0_3 HC0_3 HR0_4 HC0_4 HR0_5 HC0_5 HR0_6 HC0_6 HT_ HW_ GW101 GE101 BK101 HB BK102 GW102 GE102 NB101_102 NB102_101
 clear hs6 hfs6 hns6_0 hms6_0 hs7 hfs7 hns7_0 hms7_0 hs8 hfs8 hns8_0 hms8_0 hs9 hfs9 hns9_0 hms9_0 hs10 hfs10 hns10_0 hms10_0 hs11 hfs11 hns11_0 hms11_0 hs12 hfs12 hns12_0 hms12_0 hs13 hfs13 hns13_0 hms13_0
 clear hnb14 hnc14 hcz15_0 hfz15_0 hcz15_1 hfz15_1 hcz15_2 hfz15_2 hcz15_3 hfz15_3 hcz15_4 hfz15_4 hcz15_5 hfz15_5 hcz15_6 hfz15_6 hcz15_7 hfz15_7 hcz15_8 hfz15_8 hcz15_9 hfz15_9 hcz15_10 hfz15_10 hcz15_11 hfz15_11
 apply wp_region_lit
 iterate 9 go_step
 refine guard3 b0 t103 (.pointer (some ⟨g4, 0, none⟩)) rfl rfl rfl rfl (fun _ => rfl) ?_ ?_ ?_ ?_ ?_
 ·go_simp
 ·go_simp
 ·intro hb; go_simp
 ·intro hb; go_simp
 intro x0 y0
 simp only [Act.put, List.setIfInBounds_toArray, List.set_cons_succ, List.set_cons_zero]
 iterate 9 go_step
 refine guard3 b1 t104 (.pointer (some ⟨g4, 1, none⟩)) rfl rfl rfl rfl (fun _ => rfl) ?_ ?_ ?_ ?_ ?_
 ·go_simp
 ·go_simp
 ·intro hb; go_simp
 ·intro hb; go_simp
 intro x1 y1
 simp only [Act.put, List.setIfInBounds_toArray, List.set_cons_succ, List.set_cons_zero]
 iterate 9 go_step
 refine guard3 b2 t105 (.pointer (some ⟨g4, 2, none⟩)) rfl rfl rfl rfl (fun _ => rfl) ?_ ?_ ?_ ?_ ?_
 ·go_simp
 ·go_simp
 ·intro hb; go_simp
 ·intro hb; go_simp
 intro x2 y2
 simp only [Act.put, List.setIfInBounds_toArray, List.set_cons_succ, List.set_cons_zero]
 iterate 9 go_step
 refine guard3 b3 t106 (.pointer (some ⟨g4, 3, none⟩)) rfl rfl rfl rfl (fun _ => rfl) ?_ ?_ ?_ ?_ ?_
 ·go_simp
 ·go_simp
 ·intro hb; go_simp
 ·intro hb; go_simp
 intro x3 y3
 simp only [Act.put, List.setIfInBounds_toArray, List.set_cons_succ, List.set_cons_zero]
 iterate 9 go_step
 refine guard3 b4 t107 (.pointer (some ⟨g4, 4, none⟩)) rfl rfl rfl rfl (fun _ => rfl) ?_ ?_ ?_ ?_ ?_
 ·go_simp
 ·go_simp
 ·intro hb; go_simp
 ·intro hb; go_simp
 intro x4 y4
 simp only [Act.put, List.setIfInBounds_toArray, List.set_cons_succ, List.set_cons_zero]
 iterate 9 go_step
 refine guard3 b5 t108 (.pointer (some ⟨g4, 5, none⟩)) rfl rfl rfl rfl (fun _ => rfl) ?_ ?_ ?_ ?_ ?_
 ·go_simp
 ·go_simp
 ·intro hb; go_simp
 ·intro hb; go_simp
 intro x5 y5
 simp only [Act.put, List.setIfInBounds_toArray, List.set_cons_succ, List.set_cons_zero]
 iterate 9 go_step
 refine guard3 b6 t109 (.pointer (some ⟨g4, 6, none⟩)) rfl rfl rfl rfl (fun _ => rfl) ?_ ?_ ?_ ?_ ?_
 ·go_simp
 ·go_simp
 ·intro hb; go_simp
 ·intro hb; go_simp
 intro x6 y6
 simp only [Act.put, List.setIfInBounds_toArray, List.set_cons_succ, List.set_cons_zero]
 iterate 9 go_step
 refine guard3 b7 t110 (.pointer (some ⟨g4, 7, none⟩)) rfl rfl rfl rfl (fun _ => rfl) ?_ ?_ ?_ ?_ ?_
 ·go_simp
 ·go_simp
 ·intro hb; go_simp
 ·intro hb; go_simp
 intro x7 y7
 simp only [Act.put, List.setIfInBounds_toArray, List.set_cons_succ, List.set_cons_zero]
 go_wp2
 go_ret
 refine ⟨?_, HBW.out.alloc HBW.out.size _⟩
 rw [hb0, hb1, hb2, hb3, hb4, hb5, hb6, hb7]
 exact congrArg (fun v => Ending.returned (.bool v)) (spare_id b0 b1 b2 b3 b4 b5 b6 b7 t103 t104 t105 t106 t107 t108 t109 t110)
end Go.Proofs.Ytpidiibhgfjemaa.PLh
end
