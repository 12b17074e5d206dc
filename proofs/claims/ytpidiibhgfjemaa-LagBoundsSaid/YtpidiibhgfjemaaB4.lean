/- Texts of this claim, put together by a program: LgF, LgG, LgH, LgKa, LgK1, LgK2, LgK3, LgK4, LgK5, LgK6, LgK7, LgK8, LgK9. -/
import Derived.Test.YtpidiibhgfjemaaB3
section
namespace Go.Proofs.Ytpidiibhgfjemaa.PLh
open Go.Proofs.Ytpidiibhgfjemaa.PLg
open Go.RowKit Go.Proofs.YtpidiibhgfjemaaW.PrintWords Go.Proofs.YtpidiibhgfjemaaW.PrintLast Go.Proofs.YtpidiibhgfjemaaW.PrintMore
open Go.Proofs.Ytpidiibhgfjemaa.PLo
attribute [local go_sem] max2_int max_two max_three
set_option linter.unusedVariables false
theorem form_bel (w : World) (o1 o2 : Obj) : Below w.heap.size w ((w.alloc o1).alloc o2) := ((Below.refl w.heap.size w).alloc (Nat.le_refl _) _).alloc (by simp) _
theorem form_node (w : World) (o1 o2 : Obj) : ((w.alloc o1).alloc o2).heap[w.heap.size]? = some o1 := blk_alloc (blk_new w o1) o2
theorem form_at (w : World) (o1 o2 : Obj) : ((w.alloc o1).alloc o2).heap[w.heap.size + 1]? = some o2 := by
 have := blk_new (w.alloc o1) o2
 rwa [World.size_alloc] at this
set_option maxHeartbeats 4000000 in
set_option maxRecDepth 100000 in
theorem form_low (a0_0 : Int) (a0_1 : Int) (a0_2 : Int) (A0_3 : Option Addr) (c0_3 : Nat) (l0_3 : List (List (S79))) (A0_4 : Option Addr) (c0_4 : Nat) (l0_4 : List ByteArray) (A0_5 : Option Addr) (c0_5 : Nat) (l0_5 : List Int) (A0_6 : Option Addr) (c0_6 : Nat) (l0_6 : List (S43)) (a0_7 : Int) (a0_8 : Int) (a0_9 : Int) (a0_10 : Int) (a0_11 : Int) (a1 : Int) (w : World) (h1 : a0_0 < 1) :
  Calls Try.prog 18 #[.agg #[.int .i64 a0_0, .int .i64 a0_1, .int .i64 a0_2, .slice A0_3 l0_3.length c0_3, .slice A0_4 l0_4.length c0_4, .slice A0_5 l0_5.length c0_5, .slice A0_6 l0_6.length c0_6, .int .i64 a0_7, .int .i64 a0_8, .int .i64 a0_9, .int .i64 a0_10, .int .i64 a0_11], .int .i64 a1] w fun e w' => e = .returned (.int .i64 12) ∧ Below w.heap.size w w' := by
 have hu := Try.underlying40
 have HB := Lib.hid (form_bel w (.cells #[.int .i64 a0_0, .int .i64 a0_1, .int .i64 a0_2, .slice A0_3 l0_3.length c0_3, .slice A0_4 l0_4.length c0_4, .slice A0_5 l0_5.length c0_5, .slice A0_6 l0_6.length c0_6, .int .i64 a0_7, .int .i64 a0_8, .int .i64 a0_9, .int .i64 a0_10, .int .i64 a0_11] 40 (0, 0)) (.cells #[.int .i64 a1] 3 (0, 0)))
 have b1 : decide (a0_0 < 1) = true := decide_eq_true h1
 clear h1
 go_enter Try.func18, Try.ntmps18
 go_wp2
 go_ret
 exact ⟨rfl, HB⟩
set_option maxHeartbeats 4000000 in
set_option maxRecDepth 100000 in
theorem form_high (a0_0 : Int) (a0_1 : Int) (a0_2 : Int) (A0_3 : Option Addr) (c0_3 : Nat) (l0_3 : List (List (S79))) (A0_4 : Option Addr) (c0_4 : Nat) (l0_4 : List ByteArray) (A0_5 : Option Addr) (c0_5 : Nat) (l0_5 : List Int) (A0_6 : Option Addr) (c0_6 : Nat) (l0_6 : List (S43)) (a0_7 : Int) (a0_8 : Int) (a0_9 : Int) (a0_10 : Int) (a0_11 : Int) (a1 : Int) (w : World) (h1 : a0_0 > 9) :
  Calls Try.prog 18 #[.agg #[.int .i64 a0_0, .int .i64 a0_1, .int .i64 a0_2, .slice A0_3 l0_3.length c0_3, .slice A0_4 l0_4.length c0_4, .slice A0_5 l0_5.length c0_5, .slice A0_6 l0_6.length c0_6, .int .i64 a0_7, .int .i64 a0_8, .int .i64 a0_9, .int .i64 a0_10, .int .i64 a0_11], .int .i64 a1] w fun e w' => e = .returned (.int .i64 12) ∧ Below w.heap.size w w' := by
 have hu := Try.underlying40
 have HB := Lib.hid (form_bel w (.cells #[.int .i64 a0_0, .int .i64 a0_1, .int .i64 a0_2, .slice A0_3 l0_3.length c0_3, .slice A0_4 l0_4.length c0_4, .slice A0_5 l0_5.length c0_5, .slice A0_6 l0_6.length c0_6, .int .i64 a0_7, .int .i64 a0_8, .int .i64 a0_9, .int .i64 a0_10, .int .i64 a0_11] 40 (0, 0)) (.cells #[.int .i64 a1] 3 (0, 0)))
 have b1 : decide (a0_0 < 1) = false := decide_eq_false (by omega)
 have b2 : decide (a0_0 > 9) = true := decide_eq_true h1
 clear h1
 go_enter Try.func18, Try.ntmps18
 go_wp2
 go_ret
 exact ⟨rfl, HB⟩
set_option maxHeartbeats 4000000 in
set_option maxRecDepth 100000 in
theorem form_long (a0_0 : Int) (a0_1 : Int) (a0_2 : Int) (A0_3 : Option Addr) (c0_3 : Nat) (l0_3 : List (List (S79))) (A0_4 : Option Addr) (c0_4 : Nat) (l0_4 : List ByteArray) (A0_5 : Option Addr) (c0_5 : Nat) (l0_5 : List Int) (A0_6 : Option Addr) (c0_6 : Nat) (l0_6 : List (S43)) (a0_7 : Int) (a0_8 : Int) (a0_9 : Int) (a0_10 : Int) (a0_11 : Int) (a1 : Int) (w : World) (h1 : 1 ≤ a0_0) (h2 : a0_0 ≤ 9) (h3 : 8 < max (max l0_3.length l0_4.length) l0_5.length) :
  Calls Try.prog 18 #[.agg #[.int .i64 a0_0, .int .i64 a0_1, .int .i64 a0_2, .slice A0_3 l0_3.length c0_3, .slice A0_4 l0_4.length c0_4, .slice A0_5 l0_5.length c0_5, .slice A0_6 l0_6.length c0_6, .int .i64 a0_7, .int .i64 a0_8, .int .i64 a0_9, .int .i64 a0_10, .int .i64 a0_11], .int .i64 a1] w fun e w' => e = .returned (.int .i64 6) ∧ Below w.heap.size w w' := by
 have hu := Try.underlying40
 have HB := Lib.hid (form_bel w (.cells #[.int .i64 a0_0, .int .i64 a0_1, .int .i64 a0_2, .slice A0_3 l0_3.length c0_3, .slice A0_4 l0_4.length c0_4, .slice A0_5 l0_5.length c0_5, .slice A0_6 l0_6.length c0_6, .int .i64 a0_7, .int .i64 a0_8, .int .i64 a0_9, .int .i64 a0_10, .int .i64 a0_11] 40 (0, 0)) (.cells #[.int .i64 a1] 3 (0, 0)))
 have b1 : decide (a0_0 < 1) = false := decide_eq_false (by omega)
 have b2 : decide (a0_0 > 9) = false := decide_eq_false (by omega)
 clear h1 h2
 go_enter Try.func18, Try.ntmps18
 go_wp2
 all_goals first
  | (go_ret; exact ⟨rfl, HB⟩)
  | (exfalso; simp only [Int.not_lt] at *; omega)
set_option maxHeartbeats 4000000 in
set_option maxRecDepth 100000 in
theorem form_aggs (a0_0 : Int) (a0_1 : Int) (a0_2 : Int) (A0_3 : Option Addr) (c0_3 : Nat) (l0_3 : List (List (S79))) (A0_4 : Option Addr) (c0_4 : Nat) (l0_4 : List ByteArray) (A0_5 : Option Addr) (c0_5 : Nat) (l0_5 : List Int) (A0_6 : Option Addr) (c0_6 : Nat) (l0_6 : List (S43)) (a0_7 : Int) (a0_8 : Int) (a0_9 : Int) (a0_10 : Int) (a0_11 : Int) (a1 : Int) (w : World) (h1 : 1 ≤ a0_0) (h2 : a0_0 ≤ 9) (h3 : l0_3.length ≤ 8) (h4 : l0_4.length ≤ 8) (h5 : l0_5.length ≤ 8) (h6 : 8 < l0_6.length) :
  Calls Try.prog 18 #[.agg #[.int .i64 a0_0, .int .i64 a0_1, .int .i64 a0_2, .slice A0_3 l0_3.length c0_3, .slice A0_4 l0_4.length c0_4, .slice A0_5 l0_5.length c0_5, .slice A0_6 l0_6.length c0_6, .int .i64 a0_7, .int .i64 a0_8, .int .i64 a0_9, .int .i64 a0_10, .int .i64 a0_11], .int .i64 a1] w fun e w' => e = .returned (.int .i64 6) ∧ Below w.heap.size w w' := by
 have hu := Try.underlying40
 have HB := Lib.hid (form_bel w (.cells #[.int .i64 a0_0, .int .i64 a0_1, .int .i64 a0_2, .slice A0_3 l0_3.length c0_3, .slice A0_4 l0_4.length c0_4, .slice A0_5 l0_5.length c0_5, .slice A0_6 l0_6.length c0_6, .int .i64 a0_7, .int .i64 a0_8, .int .i64 a0_9, .int .i64 a0_10, .int .i64 a0_11] 40 (0, 0)) (.cells #[.int .i64 a1] 3 (0, 0)))
 obtain ⟨m1, hm1⟩ : ∃ m : Int, (if (l0_3.length : Int) < (l0_4.length : Int) then (l0_4.length : Int) else (l0_3.length : Int)) = m := ⟨_, rfl⟩
 obtain ⟨m2, hm2⟩ : ∃ m : Int, (if m1 < (l0_5.length : Int) then (l0_5.length : Int) else m1) = m := ⟨_, rfl⟩
 have hm3 : (if l0_3.length < l0_4.length then (l0_4.length : Int) else (l0_3.length : Int)) = m1 := by rw [← hm1]; split <;> split <;> first | rfl | omega
 have b1 : decide (a0_0 < 1) = false := decide_eq_false (by omega)
 have b2 : decide (a0_0 > 9) = false := decide_eq_false (by omega)
 have b3 : decide (m2 > 8) = false := by
  refine decide_eq_false ?_
  have e1 : m1 ≤ 8 := by rw [← hm1]; split <;> omega
  have e2 : m2 ≤ 8 := by rw [← hm2]; split <;> omega
  omega
 have b4 : decide ((l0_6.length : Int) > 8) = true := decide_eq_true (by omega)
 have b5 : decide (8 < l0_6.length) = true := decide_eq_true (by omega)
 clear h1 h2 h3 h4 h5 h6
 go_enter Try.func18, Try.ntmps18
 go_wp2
 go_ret
 exact ⟨rfl, HB⟩
theorem loop_cells {v u w' : World} {g : Nat} {o : Obj} (k : Below u.heap.size u w') (hv : u.os = v.os ∧ u.tape = v.tape ∧ u.output = v.output ∧ u.heap = v.heap) (h : v.heap[g]? = some o) : w'.heap[g]? = some o := by
 have h' : u.heap[g]? = some o := by rw [hv.2.2.2]; exact h
 exact (k.block g (Array.getElem?_eq_some_iff.1 h').1).trans h'
set_option maxHeartbeats 4000000 in
set_option maxRecDepth 100000 in
theorem form_bad (a0_0 : Int) (a0_1 : Int) (a0_2 : Int) (A0_3 : Option Addr) (c0_3 : Nat) (l0_3 : List (List (S79))) (A0_4 : Option Addr) (c0_4 : Nat) (l0_4 : List ByteArray) (A0_5 : Option Addr) (c0_5 : Nat) (l0_5 : List Int) (A0_6 : Option Addr) (c0_6 : Nat) (l0_6 : List (S43)) (a0_7 : Int) (a0_8 : Int) (a0_9 : Int) (a0_10 : Int) (a0_11 : Int) (a1 : Int) (w : World) (h1 : 1 ≤ a0_0) (h2 : a0_0 ≤ 9) (h3 : l0_3.length ≤ 8) (h4 : l0_4.length ≤ 8) (h5 : l0_5.length ≤ 8) (h6 : l0_6.length ≤ 8) (s o l : Bool) (C24 : ∀ W, Below w.heap.size w W → Calls Try.prog 24 #[.agg #[.int .i64 a0_0, .int .i64 a0_1, .int .i64 a0_2, .slice A0_3 l0_3.length c0_3, .slice A0_4 l0_4.length c0_4, .slice A0_5 l0_5.length c0_5, .slice A0_6 l0_6.length c0_6, .int .i64 a0_7, .int .i64 a0_8, .int .i64 a0_9, .int .i64 a0_10, .int .i64 a0_11]] W fun e w' => e = .returned (.bool s) ∧ Below W.heap.size W w') (C25 : ∀ W, Below w.heap.size w W → Calls Try.prog 25 #[.agg #[.int .i64 a0_0, .int .i64 a0_1, .int .i64 a0_2, .slice A0_3 l0_3.length c0_3, .slice A0_4 l0_4.length c0_4, .slice A0_5 l0_5.length c0_5, .slice A0_6 l0_6.length c0_6, .int .i64 a0_7, .int .i64 a0_8, .int .i64 a0_9, .int .i64 a0_10, .int .i64 a0_11]] W fun e w' => e = .returned (.bool o) ∧ Below W.heap.size W w') (C26 : ∀ W, Below w.heap.size w W → Calls Try.prog 26 #[.agg #[.int .i64 a0_0, .int .i64 a0_1, .int .i64 a0_2, .slice A0_3 l0_3.length c0_3, .slice A0_4 l0_4.length c0_4, .slice A0_5 l0_5.length c0_5, .slice A0_6 l0_6.length c0_6, .int .i64 a0_7, .int .i64 a0_8, .int .i64 a0_9, .int .i64 a0_10, .int .i64 a0_11]] W fun e w' => e = .returned (.bool l) ∧ Below W.heap.size W w') (hbad : (s || !o || !l) = true) :
  Calls Try.prog 18 #[.agg #[.int .i64 a0_0, .int .i64 a0_1, .int .i64 a0_2, .slice A0_3 l0_3.length c0_3, .slice A0_4 l0_4.length c0_4, .slice A0_5 l0_5.length c0_5, .slice A0_6 l0_6.length c0_6, .int .i64 a0_7, .int .i64 a0_8, .int .i64 a0_9, .int .i64 a0_10, .int .i64 a0_11], .int .i64 a1] w fun e w' => e = .returned (.int .i64 2) ∧ Below w.heap.size w w' := by
 have hu := Try.underlying40
 have HB := Lib.hid (form_bel w (.cells #[.int .i64 a0_0, .int .i64 a0_1, .int .i64 a0_2, .slice A0_3 l0_3.length c0_3, .slice A0_4 l0_4.length c0_4, .slice A0_5 l0_5.length c0_5, .slice A0_6 l0_6.length c0_6, .int .i64 a0_7, .int .i64 a0_8, .int .i64 a0_9, .int .i64 a0_10, .int .i64 a0_11] 40 (0, 0)) (.cells #[.int .i64 a1] 3 (0, 0)))
 have H0 := Lib.hid HB
 have N0 := Lib.hid (form_node w (.cells #[.int .i64 a0_0, .int .i64 a0_1, .int .i64 a0_2, .slice A0_3 l0_3.length c0_3, .slice A0_4 l0_4.length c0_4, .slice A0_5 l0_5.length c0_5, .slice A0_6 l0_6.length c0_6, .int .i64 a0_7, .int .i64 a0_8, .int .i64 a0_9, .int .i64 a0_10, .int .i64 a0_11] 40 (0, 0)) (.cells #[.int .i64 a1] 3 (0, 0)))
 have A0 := Lib.hid (form_at w (.cells #[.int .i64 a0_0, .int .i64 a0_1, .int .i64 a0_2, .slice A0_3 l0_3.length c0_3, .slice A0_4 l0_4.length c0_4, .slice A0_5 l0_5.length c0_5, .slice A0_6 l0_6.length c0_6, .int .i64 a0_7, .int .i64 a0_8, .int .i64 a0_9, .int .i64 a0_10, .int .i64 a0_11] 40 (0, 0)) (.cells #[.int .i64 a1] 3 (0, 0)))
 have C24h := Lib.hid C24
 have C25h := Lib.hid C25
 have C26h := Lib.hid C26
 clear C24 C25 C26
 obtain ⟨m1, hm1⟩ : ∃ m : Int, (if (l0_3.length : Int) < (l0_4.length : Int) then (l0_4.length : Int) else (l0_3.length : Int)) = m := ⟨_, rfl⟩
 obtain ⟨m2, hm2⟩ : ∃ m : Int, (if m1 < (l0_5.length : Int) then (l0_5.length : Int) else m1) = m := ⟨_, rfl⟩
 have hm3 : (if l0_3.length < l0_4.length then (l0_4.length : Int) else (l0_3.length : Int)) = m1 := by rw [← hm1]; split <;> split <;> first | rfl | omega
 have b1 : decide (a0_0 < 1) = false := decide_eq_false (by omega)
 have b2 : decide (a0_0 > 9) = false := decide_eq_false (by omega)
 have b3 : decide (m2 > 8) = false := by
  refine decide_eq_false ?_
  have e1 : m1 ≤ 8 := by rw [← hm1]; split <;> omega
  have e2 : m2 ≤ 8 := by rw [← hm2]; split <;> omega
  omega
 have b4 : decide ((l0_6.length : Int) > 8) = false := decide_eq_false (by omega)
 have b5 : decide (8 < l0_6.length) = false := decide_eq_false (by omega)
 clear h1 h2 h3 h4 h5 h6
 cases s
 ·cases o
  ·go_enter Try.func18, Try.ntmps18
   go_wp2_with (first
    | (go_at_call 24; (with_reducible refine (C24h.out _ ?hb).mono ?_); (case hb => exact H0.out); rintro e w1 ⟨rfl, hb1⟩; have H1 := Lib.hid (join_below H0.out hb1 ⟨rfl, rfl, rfl, rfl⟩ (by first | exact H0.out.size | simp)); have N1 := Lib.hid (loop_cells hb1 (v := _) ⟨rfl, rfl, rfl, rfl⟩ N0.out); have A1 := Lib.hid (loop_cells hb1 ⟨rfl, rfl, rfl, rfl⟩ A0.out); have y1_0 : w1.cell? ⟨w.heap.size, 0, none⟩ = some (.int .i64 a0_0) := (blk_cell N1.out 0).trans rfl; have y1_1 : w1.cell? ⟨w.heap.size, 1, none⟩ = some (.int .i64 a0_1) := (blk_cell N1.out 1).trans rfl; have y1_2 : w1.cell? ⟨w.heap.size, 2, none⟩ = some (.int .i64 a0_2) := (blk_cell N1.out 2).trans rfl; have y1_3 : w1.cell? ⟨w.heap.size, 3, none⟩ = some (.slice A0_3 l0_3.length c0_3) := (blk_cell N1.out 3).trans rfl; have y1_4 : w1.cell? ⟨w.heap.size, 4, none⟩ = some (.slice A0_4 l0_4.length c0_4) := (blk_cell N1.out 4).trans rfl; have y1_5 : w1.cell? ⟨w.heap.size, 5, none⟩ = some (.slice A0_5 l0_5.length c0_5) := (blk_cell N1.out 5).trans rfl; have y1_6 : w1.cell? ⟨w.heap.size, 6, none⟩ = some (.slice A0_6 l0_6.length c0_6) := (blk_cell N1.out 6).trans rfl; have y1_7 : w1.cell? ⟨w.heap.size, 7, none⟩ = some (.int .i64 a0_7) := (blk_cell N1.out 7).trans rfl; have y1_8 : w1.cell? ⟨w.heap.size, 8, none⟩ = some (.int .i64 a0_8) := (blk_cell N1.out 8).trans rfl; have y1_9 : w1.cell? ⟨w.heap.size, 9, none⟩ = some (.int .i64 a0_9) := (blk_cell N1.out 9).trans rfl; have y1_10 : w1.cell? ⟨w.heap.size, 10, none⟩ = some (.int .i64 a0_10) := (blk_cell N1.out 10).trans rfl; have y1_11 : w1.cell? ⟨w.heap.size, 11, none⟩ = some (.int .i64 a0_11) := (blk_cell N1.out 11).trans rfl; clear hb1)
    | (go_at_call 25; (with_reducible refine (C25h.out _ ?hb).mono ?_); (case hb => exact H1.out); rintro e w2 ⟨rfl, hb2⟩; have H2 := Lib.hid (join_below H1.out hb2 ⟨rfl, rfl, rfl, rfl⟩ (by first | exact H1.out.size | simp)); have N2 := Lib.hid (loop_cells hb2 (v := _) ⟨rfl, rfl, rfl, rfl⟩ N1.out); have A2 := Lib.hid (loop_cells hb2 ⟨rfl, rfl, rfl, rfl⟩ A1.out); clear hb2))
   go_ret
   exact ⟨rfl, H2.out⟩
  ·obtain rfl : l = false := by simpa using hbad
   go_enter Try.func18, Try.ntmps18
   go_wp2_with (first
    | (go_at_call 24; (with_reducible refine (C24h.out _ ?hb).mono ?_); (case hb => exact H0.out); rintro e w1 ⟨rfl, hb1⟩; have H1 := Lib.hid (join_below H0.out hb1 ⟨rfl, rfl, rfl, rfl⟩ (by first | exact H0.out.size | simp)); have N1 := Lib.hid (loop_cells hb1 (v := _) ⟨rfl, rfl, rfl, rfl⟩ N0.out); have A1 := Lib.hid (loop_cells hb1 ⟨rfl, rfl, rfl, rfl⟩ A0.out); have y1_0 : w1.cell? ⟨w.heap.size, 0, none⟩ = some (.int .i64 a0_0) := (blk_cell N1.out 0).trans rfl; have y1_1 : w1.cell? ⟨w.heap.size, 1, none⟩ = some (.int .i64 a0_1) := (blk_cell N1.out 1).trans rfl; have y1_2 : w1.cell? ⟨w.heap.size, 2, none⟩ = some (.int .i64 a0_2) := (blk_cell N1.out 2).trans rfl; have y1_3 : w1.cell? ⟨w.heap.size, 3, none⟩ = some (.slice A0_3 l0_3.length c0_3) := (blk_cell N1.out 3).trans rfl; have y1_4 : w1.cell? ⟨w.heap.size, 4, none⟩ = some (.slice A0_4 l0_4.length c0_4) := (blk_cell N1.out 4).trans rfl; have y1_5 : w1.cell? ⟨w.heap.size, 5, none⟩ = some (.slice A0_5 l0_5.length c0_5) := (blk_cell N1.out 5).trans rfl; have y1_6 : w1.cell? ⟨w.heap.size, 6, none⟩ = some (.slice A0_6 l0_6.length c0_6) := (blk_cell N1.out 6).trans rfl; have y1_7 : w1.cell? ⟨w.heap.size, 7, none⟩ = some (.int .i64 a0_7) := (blk_cell N1.out 7).trans rfl; have y1_8 : w1.cell? ⟨w.heap.size, 8, none⟩ = some (.int .i64 a0_8) := (blk_cell N1.out 8).trans rfl; have y1_9 : w1.cell? ⟨w.heap.size, 9, none⟩ = some (.int .i64 a0_9) := (blk_cell N1.out 9).trans rfl; have y1_10 : w1.cell? ⟨w.heap.size, 10, none⟩ = some (.int .i64 a0_10) := (blk_cell N1.out 10).trans rfl; have y1_11 : w1.cell? ⟨w.heap.size, 11, none⟩ = some (.int .i64 a0_11) := (blk_cell N1.out 11).trans rfl; clear hb1)
    | (go_at_call 25; (with_reducible refine (C25h.out _ ?hb).mono ?_); (case hb => exact H1.out); rintro e w2 ⟨rfl, hb2⟩; have H2 := Lib.hid (join_below H1.out hb2 ⟨rfl, rfl, rfl, rfl⟩ (by first | exact H1.out.size | simp)); have N2 := Lib.hid (loop_cells hb2 (v := _) ⟨rfl, rfl, rfl, rfl⟩ N1.out); have A2 := Lib.hid (loop_cells hb2 ⟨rfl, rfl, rfl, rfl⟩ A1.out); have y2_0 : w2.cell? ⟨w.heap.size, 0, none⟩ = some (.int .i64 a0_0) := (blk_cell N2.out 0).trans rfl; have y2_1 : w2.cell? ⟨w.heap.size, 1, none⟩ = some (.int .i64 a0_1) := (blk_cell N2.out 1).trans rfl; have y2_2 : w2.cell? ⟨w.heap.size, 2, none⟩ = some (.int .i64 a0_2) := (blk_cell N2.out 2).trans rfl; have y2_3 : w2.cell? ⟨w.heap.size, 3, none⟩ = some (.slice A0_3 l0_3.length c0_3) := (blk_cell N2.out 3).trans rfl; have y2_4 : w2.cell? ⟨w.heap.size, 4, none⟩ = some (.slice A0_4 l0_4.length c0_4) := (blk_cell N2.out 4).trans rfl; have y2_5 : w2.cell? ⟨w.heap.size, 5, none⟩ = some (.slice A0_5 l0_5.length c0_5) := (blk_cell N2.out 5).trans rfl; have y2_6 : w2.cell? ⟨w.heap.size, 6, none⟩ = some (.slice A0_6 l0_6.length c0_6) := (blk_cell N2.out 6).trans rfl; have y2_7 : w2.cell? ⟨w.heap.size, 7, none⟩ = some (.int .i64 a0_7) := (blk_cell N2.out 7).trans rfl; have y2_8 : w2.cell? ⟨w.heap.size, 8, none⟩ = some (.int .i64 a0_8) := (blk_cell N2.out 8).trans rfl; have y2_9 : w2.cell? ⟨w.heap.size, 9, none⟩ = some (.int .i64 a0_9) := (blk_cell N2.out 9).trans rfl; have y2_10 : w2.cell? ⟨w.heap.size, 10, none⟩ = some (.int .i64 a0_10) := (blk_cell N2.out 10).trans rfl; have y2_11 : w2.cell? ⟨w.heap.size, 11, none⟩ = some (.int .i64 a0_11) := (blk_cell N2.out 11).trans rfl; clear hb2)
    | (go_at_call 26; (with_reducible refine (C26h.out _ ?hb).mono ?_); (case hb => exact H2.out); rintro e w3 ⟨rfl, hb3⟩; have H3 := Lib.hid (join_below H2.out hb3 ⟨rfl, rfl, rfl, rfl⟩ (by first | exact H2.out.size | simp)); have N3 := Lib.hid (loop_cells hb3 (v := _) ⟨rfl, rfl, rfl, rfl⟩ N2.out); have A3 := Lib.hid (loop_cells hb3 ⟨rfl, rfl, rfl, rfl⟩ A2.out); clear hb3))
   go_ret
   exact ⟨rfl, H3.out⟩
 ·go_enter Try.func18, Try.ntmps18
  go_wp2_with (go_at_call 24; (with_reducible refine (C24h.out _ ?hb).mono ?_); (case hb => exact H0.out); rintro e w1 ⟨rfl, hb1⟩; have H1 := Lib.hid (join_below H0.out hb1 ⟨rfl, rfl, rfl, rfl⟩ (by first | exact H0.out.size | simp)); have N1 := Lib.hid (loop_cells hb1 (v := _) ⟨rfl, rfl, rfl, rfl⟩ N0.out); have A1 := Lib.hid (loop_cells hb1 ⟨rfl, rfl, rfl, rfl⟩ A0.out); clear hb1)
  go_ret
  exact ⟨rfl, H1.out⟩
end Go.Proofs.Ytpidiibhgfjemaa.PLh
end
section
namespace Go.Proofs.Ytpidiibhgfjemaa.PLh
open Go.Proofs.Ytpidiibhgfjemaa.PLg
open Go.RowKit Go.Proofs.YtpidiibhgfjemaaW.PrintWords Go.Proofs.YtpidiibhgfjemaaW.PrintLast Go.Proofs.YtpidiibhgfjemaaW.PrintMore
open Go.Proofs.Ytpidiibhgfjemaa.PLo
attribute [local go_sem] max2_int max_two max_three
set_option linter.unusedVariables false
theorem form1_calls (i a1 : Int) (g : Nat) (w : World) (hc : w.cell? ⟨g, 0, none⟩ = some (.int .i64 a1)) :
  Calls Try.prog 28 #[.int .i64 i, .pointer (some ⟨g, 0, none⟩)] w fun e w' => e = .returned (.bool (decide (i < 0) || decide (i ≥ a1))) ∧ Below w.heap.size w w' := by
 by_cases h : i < 0
 ·have b : decide (i < 0) = true := decide_eq_true h
  rw [b]
  clear h
  go_enter Try.func28, Try.ntmps28
  go_wp2
  go_ret
  exact ⟨rfl, Below.refl _ _⟩
 ·have b : decide (i < 0) = false := decide_eq_false h
  rw [b, Bool.false_or]
  clear h
  go_enter Try.func28, Try.ntmps28
  go_wp2
  go_ret
  exact ⟨rfl, Below.refl _ _⟩
theorem has_intc (a1 : Int) (A0 : Option Addr) (c0 : Nat) (l : List Int) (g : Nat) (w : World) (hg : g < w.heap.size) (hc : w.cell? ⟨g, 0, none⟩ = some (.int .i64 a1)) (hr0 : Kd.C (Kd.int .i64) w A0 l.length l) (hl : l.length ≤ 1000) (b : Bool) (hb : (l.any fun i => decide (i < 0) || decide (i ≥ a1)) = b) :
  Calls Try.prog 27 #[.slice A0 l.length c0, .func (.func 28) #[] #[.pointer (some ⟨g, 0, none⟩)]] w fun e w' => e = .returned (.bool b) ∧ Below w.heap.size w w' := by
 have C := Lib.hid (ix_intc (fun i => decide (i < 0) || decide (i ≥ a1)) 28 (.pointer (some ⟨g, 0, none⟩)) A0 c0 l w (fun x w1 _ hb => form1_calls x a1 g w1 ((hb.cell (p := ⟨g, 0, none⟩) hg).trans hc)) (fun args w => by rfl) hr0 hl)
 rw [hb] at C
 clear hr0 hl hc hb
 go_enter Try.func27, Try.ntmps27
 go_wp2_with (go_at_call 44; ((with_reducible refine C.out.mono ?_); rintro e w' ⟨⟨r, rfl, hr⟩, hb⟩; have HRR := Lib.hid hr; clear hr))
 go_ret
 exact ⟨by rw [← HRR.out]; rfl, hb⟩
theorem eform_calls (A : Option Addr) (c : Nat) (x : List S79) (w : World) (hr : Kd.C k79 w A x.length x) (hc : x.length ≤ c) :
  Calls Try.prog 29 #[.slice A x.length c] w fun e w' => e = .returned (.int .i64 (EvP.formV x)) ∧ Below w.heap.size w w' := by
 obtain ⟨k, hk⟩ := (EvP.form_E x).get
 exact expr_Form.calls k A c x _ w hr hc hk
def exprsV : List (List S79) → Int
 | [] => 0
 | x :: xs => if EvP.formV x = 0 then exprsV xs else EvP.formV x
set_option maxHeartbeats 4000000 in
set_option maxRecDepth 100000 in
theorem form_src (a0_0 : Int) (a0_1 : Int) (a0_2 : Int) (A0_3 : Option Addr) (c0_3 : Nat) (l0_3 : List (List (S79))) (A0_4 : Option Addr) (c0_4 : Nat) (l0_4 : List ByteArray) (A0_5 : Option Addr) (c0_5 : Nat) (l0_5 : List Int) (A0_6 : Option Addr) (c0_6 : Nat) (l0_6 : List (S43)) (a0_7 : Int) (a0_8 : Int) (a0_9 : Int) (a0_10 : Int) (a0_11 : Int) (a1 : Int) (w : World) (h1 : 1 ≤ a0_0) (h2 : a0_0 ≤ 9) (h3 : l0_3.length ≤ 8) (h4 : l0_4.length ≤ 8) (h5 : l0_5.length ≤ 8) (h6 : l0_6.length ≤ 8) (C24 : ∀ W, Below w.heap.size w W → Calls Try.prog 24 #[.agg #[.int .i64 a0_0, .int .i64 a0_1, .int .i64 a0_2, .slice A0_3 l0_3.length c0_3, .slice A0_4 l0_4.length c0_4, .slice A0_5 l0_5.length c0_5, .slice A0_6 l0_6.length c0_6, .int .i64 a0_7, .int .i64 a0_8, .int .i64 a0_9, .int .i64 a0_10, .int .i64 a0_11]] W fun e w' => e = .returned (.bool false) ∧ Below W.heap.size W w') (C25 : ∀ W, Below w.heap.size w W → Calls Try.prog 25 #[.agg #[.int .i64 a0_0, .int .i64 a0_1, .int .i64 a0_2, .slice A0_3 l0_3.length c0_3, .slice A0_4 l0_4.length c0_4, .slice A0_5 l0_5.length c0_5, .slice A0_6 l0_6.length c0_6, .int .i64 a0_7, .int .i64 a0_8, .int .i64 a0_9, .int .i64 a0_10, .int .i64 a0_11]] W fun e w' => e = .returned (.bool true) ∧ Below W.heap.size W w') (C26 : ∀ W, Below w.heap.size w W → Calls Try.prog 26 #[.agg #[.int .i64 a0_0, .int .i64 a0_1, .int .i64 a0_2, .slice A0_3 l0_3.length c0_3, .slice A0_4 l0_4.length c0_4, .slice A0_5 l0_5.length c0_5, .slice A0_6 l0_6.length c0_6, .int .i64 a0_7, .int .i64 a0_8, .int .i64 a0_9, .int .i64 a0_10, .int .i64 a0_11]] W fun e w' => e = .returned (.bool true) ∧ Below W.heap.size W w') (hs : a0_0 = 1) (hb : a0_1 < 0 ∨ a0_1 ≥ 8) :
  Calls Try.prog 18 #[.agg #[.int .i64 a0_0, .int .i64 a0_1, .int .i64 a0_2, .slice A0_3 l0_3.length c0_3, .slice A0_4 l0_4.length c0_4, .slice A0_5 l0_5.length c0_5, .slice A0_6 l0_6.length c0_6, .int .i64 a0_7, .int .i64 a0_8, .int .i64 a0_9, .int .i64 a0_10, .int .i64 a0_11], .int .i64 a1] w fun e w' => e = .returned (.int .i64 3) ∧ Below w.heap.size w w' := by
 have hu := Try.underlying40
 have HB := Lib.hid (form_bel w (.cells #[.int .i64 a0_0, .int .i64 a0_1, .int .i64 a0_2, .slice A0_3 l0_3.length c0_3, .slice A0_4 l0_4.length c0_4, .slice A0_5 l0_5.length c0_5, .slice A0_6 l0_6.length c0_6, .int .i64 a0_7, .int .i64 a0_8, .int .i64 a0_9, .int .i64 a0_10, .int .i64 a0_11] 40 (0, 0)) (.cells #[.int .i64 a1] 3 (0, 0)))
 have H0 := Lib.hid HB
 have N0 := Lib.hid (form_node w (.cells #[.int .i64 a0_0, .int .i64 a0_1, .int .i64 a0_2, .slice A0_3 l0_3.length c0_3, .slice A0_4 l0_4.length c0_4, .slice A0_5 l0_5.length c0_5, .slice A0_6 l0_6.length c0_6, .int .i64 a0_7, .int .i64 a0_8, .int .i64 a0_9, .int .i64 a0_10, .int .i64 a0_11] 40 (0, 0)) (.cells #[.int .i64 a1] 3 (0, 0)))
 have A0 := Lib.hid (form_at w (.cells #[.int .i64 a0_0, .int .i64 a0_1, .int .i64 a0_2, .slice A0_3 l0_3.length c0_3, .slice A0_4 l0_4.length c0_4, .slice A0_5 l0_5.length c0_5, .slice A0_6 l0_6.length c0_6, .int .i64 a0_7, .int .i64 a0_8, .int .i64 a0_9, .int .i64 a0_10, .int .i64 a0_11] 40 (0, 0)) (.cells #[.int .i64 a1] 3 (0, 0)))
 have C24h := Lib.hid C24
 have C25h := Lib.hid C25
 have C26h := Lib.hid C26
 clear C24 C25 C26
 obtain ⟨m1, hm1⟩ : ∃ m : Int, (if (l0_3.length : Int) < (l0_4.length : Int) then (l0_4.length : Int) else (l0_3.length : Int)) = m := ⟨_, rfl⟩
 obtain ⟨m2, hm2⟩ : ∃ m : Int, (if m1 < (l0_5.length : Int) then (l0_5.length : Int) else m1) = m := ⟨_, rfl⟩
 have hm3 : (if l0_3.length < l0_4.length then (l0_4.length : Int) else (l0_3.length : Int)) = m1 := by rw [← hm1]; split <;> split <;> first | rfl | omega
 have b1 : decide (a0_0 < 1) = false := decide_eq_false (by omega)
 have b2 : decide (a0_0 > 9) = false := decide_eq_false (by omega)
 have b3 : decide (m2 > 8) = false := by
  refine decide_eq_false ?_
  have e1 : m1 ≤ 8 := by rw [← hm1]; split <;> omega
  have e2 : m2 ≤ 8 := by rw [← hm2]; split <;> omega
  omega
 have b4 : decide ((l0_6.length : Int) > 8) = false := decide_eq_false (by omega)
 have b5 : decide (8 < l0_6.length) = false := decide_eq_false (by omega)
 have b6 : (a0_0 == 1) = true := by simp [hs]
 clear hs h1 h2 h3 h4 h5 h6
 by_cases hn : a0_1 < 0
 ·have b7 : decide (a0_1 < 0) = true := decide_eq_true hn
  clear hn hb
  go_enter Try.func18, Try.ntmps18
  go_wp2_with (first
   | (go_at_call 24; (with_reducible refine (C24h.out _ ?hb).mono ?_); (case hb => exact H0.out); rintro e w1 ⟨rfl, hb1⟩; have H1 := Lib.hid (join_below H0.out hb1 ⟨rfl, rfl, rfl, rfl⟩ (by first | exact H0.out.size | simp)); have N1 := Lib.hid (loop_cells hb1 (v := _) ⟨rfl, rfl, rfl, rfl⟩ N0.out); have A1 := Lib.hid (loop_cells hb1 ⟨rfl, rfl, rfl, rfl⟩ A0.out); have y1_0 : w1.cell? ⟨w.heap.size, 0, none⟩ = some (.int .i64 a0_0) := (blk_cell N1.out 0).trans rfl; have y1_1 : w1.cell? ⟨w.heap.size, 1, none⟩ = some (.int .i64 a0_1) := (blk_cell N1.out 1).trans rfl; have y1_2 : w1.cell? ⟨w.heap.size, 2, none⟩ = some (.int .i64 a0_2) := (blk_cell N1.out 2).trans rfl; have y1_3 : w1.cell? ⟨w.heap.size, 3, none⟩ = some (.slice A0_3 l0_3.length c0_3) := (blk_cell N1.out 3).trans rfl; have y1_4 : w1.cell? ⟨w.heap.size, 4, none⟩ = some (.slice A0_4 l0_4.length c0_4) := (blk_cell N1.out 4).trans rfl; have y1_5 : w1.cell? ⟨w.heap.size, 5, none⟩ = some (.slice A0_5 l0_5.length c0_5) := (blk_cell N1.out 5).trans rfl; have y1_6 : w1.cell? ⟨w.heap.size, 6, none⟩ = some (.slice A0_6 l0_6.length c0_6) := (blk_cell N1.out 6).trans rfl; have y1_7 : w1.cell? ⟨w.heap.size, 7, none⟩ = some (.int .i64 a0_7) := (blk_cell N1.out 7).trans rfl; have y1_8 : w1.cell? ⟨w.heap.size, 8, none⟩ = some (.int .i64 a0_8) := (blk_cell N1.out 8).trans rfl; have y1_9 : w1.cell? ⟨w.heap.size, 9, none⟩ = some (.int .i64 a0_9) := (blk_cell N1.out 9).trans rfl; have y1_10 : w1.cell? ⟨w.heap.size, 10, none⟩ = some (.int .i64 a0_10) := (blk_cell N1.out 10).trans rfl; have y1_11 : w1.cell? ⟨w.heap.size, 11, none⟩ = some (.int .i64 a0_11) := (blk_cell N1.out 11).trans rfl; clear hb1)
   | (go_at_call 25; (with_reducible refine (C25h.out _ ?hb).mono ?_); (case hb => exact H1.out); rintro e w2 ⟨rfl, hb2⟩; have H2 := Lib.hid (join_below H1.out hb2 ⟨rfl, rfl, rfl, rfl⟩ (by first | exact H1.out.size | simp)); have N2 := Lib.hid (loop_cells hb2 (v := _) ⟨rfl, rfl, rfl, rfl⟩ N1.out); have A2 := Lib.hid (loop_cells hb2 ⟨rfl, rfl, rfl, rfl⟩ A1.out); have y2_0 : w2.cell? ⟨w.heap.size, 0, none⟩ = some (.int .i64 a0_0) := (blk_cell N2.out 0).trans rfl; have y2_1 : w2.cell? ⟨w.heap.size, 1, none⟩ = some (.int .i64 a0_1) := (blk_cell N2.out 1).trans rfl; have y2_2 : w2.cell? ⟨w.heap.size, 2, none⟩ = some (.int .i64 a0_2) := (blk_cell N2.out 2).trans rfl; have y2_3 : w2.cell? ⟨w.heap.size, 3, none⟩ = some (.slice A0_3 l0_3.length c0_3) := (blk_cell N2.out 3).trans rfl; have y2_4 : w2.cell? ⟨w.heap.size, 4, none⟩ = some (.slice A0_4 l0_4.length c0_4) := (blk_cell N2.out 4).trans rfl; have y2_5 : w2.cell? ⟨w.heap.size, 5, none⟩ = some (.slice A0_5 l0_5.length c0_5) := (blk_cell N2.out 5).trans rfl; have y2_6 : w2.cell? ⟨w.heap.size, 6, none⟩ = some (.slice A0_6 l0_6.length c0_6) := (blk_cell N2.out 6).trans rfl; have y2_7 : w2.cell? ⟨w.heap.size, 7, none⟩ = some (.int .i64 a0_7) := (blk_cell N2.out 7).trans rfl; have y2_8 : w2.cell? ⟨w.heap.size, 8, none⟩ = some (.int .i64 a0_8) := (blk_cell N2.out 8).trans rfl; have y2_9 : w2.cell? ⟨w.heap.size, 9, none⟩ = some (.int .i64 a0_9) := (blk_cell N2.out 9).trans rfl; have y2_10 : w2.cell? ⟨w.heap.size, 10, none⟩ = some (.int .i64 a0_10) := (blk_cell N2.out 10).trans rfl; have y2_11 : w2.cell? ⟨w.heap.size, 11, none⟩ = some (.int .i64 a0_11) := (blk_cell N2.out 11).trans rfl; clear hb2)
   | (go_at_call 26; (with_reducible refine (C26h.out _ ?hb).mono ?_); (case hb => exact H2.out); rintro e w3 ⟨rfl, hb3⟩; have H3 := Lib.hid (join_below H2.out hb3 ⟨rfl, rfl, rfl, rfl⟩ (by first | exact H2.out.size | simp)); have N3 := Lib.hid (loop_cells hb3 (v := _) ⟨rfl, rfl, rfl, rfl⟩ N2.out); have A3 := Lib.hid (loop_cells hb3 ⟨rfl, rfl, rfl, rfl⟩ A2.out); have y3_0 : w3.cell? ⟨w.heap.size, 0, none⟩ = some (.int .i64 a0_0) := (blk_cell N3.out 0).trans rfl; have y3_1 : w3.cell? ⟨w.heap.size, 1, none⟩ = some (.int .i64 a0_1) := (blk_cell N3.out 1).trans rfl; have y3_2 : w3.cell? ⟨w.heap.size, 2, none⟩ = some (.int .i64 a0_2) := (blk_cell N3.out 2).trans rfl; have y3_3 : w3.cell? ⟨w.heap.size, 3, none⟩ = some (.slice A0_3 l0_3.length c0_3) := (blk_cell N3.out 3).trans rfl; have y3_4 : w3.cell? ⟨w.heap.size, 4, none⟩ = some (.slice A0_4 l0_4.length c0_4) := (blk_cell N3.out 4).trans rfl; have y3_5 : w3.cell? ⟨w.heap.size, 5, none⟩ = some (.slice A0_5 l0_5.length c0_5) := (blk_cell N3.out 5).trans rfl; have y3_6 : w3.cell? ⟨w.heap.size, 6, none⟩ = some (.slice A0_6 l0_6.length c0_6) := (blk_cell N3.out 6).trans rfl; have y3_7 : w3.cell? ⟨w.heap.size, 7, none⟩ = some (.int .i64 a0_7) := (blk_cell N3.out 7).trans rfl; have y3_8 : w3.cell? ⟨w.heap.size, 8, none⟩ = some (.int .i64 a0_8) := (blk_cell N3.out 8).trans rfl; have y3_9 : w3.cell? ⟨w.heap.size, 9, none⟩ = some (.int .i64 a0_9) := (blk_cell N3.out 9).trans rfl; have y3_10 : w3.cell? ⟨w.heap.size, 10, none⟩ = some (.int .i64 a0_10) := (blk_cell N3.out 10).trans rfl; have y3_11 : w3.cell? ⟨w.heap.size, 11, none⟩ = some (.int .i64 a0_11) := (blk_cell N3.out 11).trans rfl; clear hb3))
  go_ret
  exact ⟨rfl, H3.out⟩
 ·have b7 : decide (a0_1 < 0) = false := decide_eq_false hn
  have b8 : decide (a0_1 ≥ 8) = true := decide_eq_true (by omega)
  clear hn hb
  go_enter Try.func18, Try.ntmps18
  go_wp2_with (first
   | (go_at_call 24; (with_reducible refine (C24h.out _ ?hb).mono ?_); (case hb => exact H0.out); rintro e w1 ⟨rfl, hb1⟩; have H1 := Lib.hid (join_below H0.out hb1 ⟨rfl, rfl, rfl, rfl⟩ (by first | exact H0.out.size | simp)); have N1 := Lib.hid (loop_cells hb1 (v := _) ⟨rfl, rfl, rfl, rfl⟩ N0.out); have A1 := Lib.hid (loop_cells hb1 ⟨rfl, rfl, rfl, rfl⟩ A0.out); have y1_0 : w1.cell? ⟨w.heap.size, 0, none⟩ = some (.int .i64 a0_0) := (blk_cell N1.out 0).trans rfl; have y1_1 : w1.cell? ⟨w.heap.size, 1, none⟩ = some (.int .i64 a0_1) := (blk_cell N1.out 1).trans rfl; have y1_2 : w1.cell? ⟨w.heap.size, 2, none⟩ = some (.int .i64 a0_2) := (blk_cell N1.out 2).trans rfl; have y1_3 : w1.cell? ⟨w.heap.size, 3, none⟩ = some (.slice A0_3 l0_3.length c0_3) := (blk_cell N1.out 3).trans rfl; have y1_4 : w1.cell? ⟨w.heap.size, 4, none⟩ = some (.slice A0_4 l0_4.length c0_4) := (blk_cell N1.out 4).trans rfl; have y1_5 : w1.cell? ⟨w.heap.size, 5, none⟩ = some (.slice A0_5 l0_5.length c0_5) := (blk_cell N1.out 5).trans rfl; have y1_6 : w1.cell? ⟨w.heap.size, 6, none⟩ = some (.slice A0_6 l0_6.length c0_6) := (blk_cell N1.out 6).trans rfl; have y1_7 : w1.cell? ⟨w.heap.size, 7, none⟩ = some (.int .i64 a0_7) := (blk_cell N1.out 7).trans rfl; have y1_8 : w1.cell? ⟨w.heap.size, 8, none⟩ = some (.int .i64 a0_8) := (blk_cell N1.out 8).trans rfl; have y1_9 : w1.cell? ⟨w.heap.size, 9, none⟩ = some (.int .i64 a0_9) := (blk_cell N1.out 9).trans rfl; have y1_10 : w1.cell? ⟨w.heap.size, 10, none⟩ = some (.int .i64 a0_10) := (blk_cell N1.out 10).trans rfl; have y1_11 : w1.cell? ⟨w.heap.size, 11, none⟩ = some (.int .i64 a0_11) := (blk_cell N1.out 11).trans rfl; clear hb1)
   | (go_at_call 25; (with_reducible refine (C25h.out _ ?hb).mono ?_); (case hb => exact H1.out); rintro e w2 ⟨rfl, hb2⟩; have H2 := Lib.hid (join_below H1.out hb2 ⟨rfl, rfl, rfl, rfl⟩ (by first | exact H1.out.size | simp)); have N2 := Lib.hid (loop_cells hb2 (v := _) ⟨rfl, rfl, rfl, rfl⟩ N1.out); have A2 := Lib.hid (loop_cells hb2 ⟨rfl, rfl, rfl, rfl⟩ A1.out); have y2_0 : w2.cell? ⟨w.heap.size, 0, none⟩ = some (.int .i64 a0_0) := (blk_cell N2.out 0).trans rfl; have y2_1 : w2.cell? ⟨w.heap.size, 1, none⟩ = some (.int .i64 a0_1) := (blk_cell N2.out 1).trans rfl; have y2_2 : w2.cell? ⟨w.heap.size, 2, none⟩ = some (.int .i64 a0_2) := (blk_cell N2.out 2).trans rfl; have y2_3 : w2.cell? ⟨w.heap.size, 3, none⟩ = some (.slice A0_3 l0_3.length c0_3) := (blk_cell N2.out 3).trans rfl; have y2_4 : w2.cell? ⟨w.heap.size, 4, none⟩ = some (.slice A0_4 l0_4.length c0_4) := (blk_cell N2.out 4).trans rfl; have y2_5 : w2.cell? ⟨w.heap.size, 5, none⟩ = some (.slice A0_5 l0_5.length c0_5) := (blk_cell N2.out 5).trans rfl; have y2_6 : w2.cell? ⟨w.heap.size, 6, none⟩ = some (.slice A0_6 l0_6.length c0_6) := (blk_cell N2.out 6).trans rfl; have y2_7 : w2.cell? ⟨w.heap.size, 7, none⟩ = some (.int .i64 a0_7) := (blk_cell N2.out 7).trans rfl; have y2_8 : w2.cell? ⟨w.heap.size, 8, none⟩ = some (.int .i64 a0_8) := (blk_cell N2.out 8).trans rfl; have y2_9 : w2.cell? ⟨w.heap.size, 9, none⟩ = some (.int .i64 a0_9) := (blk_cell N2.out 9).trans rfl; have y2_10 : w2.cell? ⟨w.heap.size, 10, none⟩ = some (.int .i64 a0_10) := (blk_cell N2.out 10).trans rfl; have y2_11 : w2.cell? ⟨w.heap.size, 11, none⟩ = some (.int .i64 a0_11) := (blk_cell N2.out 11).trans rfl; clear hb2)
   | (go_at_call 26; (with_reducible refine (C26h.out _ ?hb).mono ?_); (case hb => exact H2.out); rintro e w3 ⟨rfl, hb3⟩; have H3 := Lib.hid (join_below H2.out hb3 ⟨rfl, rfl, rfl, rfl⟩ (by first | exact H2.out.size | simp)); have N3 := Lib.hid (loop_cells hb3 (v := _) ⟨rfl, rfl, rfl, rfl⟩ N2.out); have A3 := Lib.hid (loop_cells hb3 ⟨rfl, rfl, rfl, rfl⟩ A2.out); have y3_0 : w3.cell? ⟨w.heap.size, 0, none⟩ = some (.int .i64 a0_0) := (blk_cell N3.out 0).trans rfl; have y3_1 : w3.cell? ⟨w.heap.size, 1, none⟩ = some (.int .i64 a0_1) := (blk_cell N3.out 1).trans rfl; have y3_2 : w3.cell? ⟨w.heap.size, 2, none⟩ = some (.int .i64 a0_2) := (blk_cell N3.out 2).trans rfl; have y3_3 : w3.cell? ⟨w.heap.size, 3, none⟩ = some (.slice A0_3 l0_3.length c0_3) := (blk_cell N3.out 3).trans rfl; have y3_4 : w3.cell? ⟨w.heap.size, 4, none⟩ = some (.slice A0_4 l0_4.length c0_4) := (blk_cell N3.out 4).trans rfl; have y3_5 : w3.cell? ⟨w.heap.size, 5, none⟩ = some (.slice A0_5 l0_5.length c0_5) := (blk_cell N3.out 5).trans rfl; have y3_6 : w3.cell? ⟨w.heap.size, 6, none⟩ = some (.slice A0_6 l0_6.length c0_6) := (blk_cell N3.out 6).trans rfl; have y3_7 : w3.cell? ⟨w.heap.size, 7, none⟩ = some (.int .i64 a0_7) := (blk_cell N3.out 7).trans rfl; have y3_8 : w3.cell? ⟨w.heap.size, 8, none⟩ = some (.int .i64 a0_8) := (blk_cell N3.out 8).trans rfl; have y3_9 : w3.cell? ⟨w.heap.size, 9, none⟩ = some (.int .i64 a0_9) := (blk_cell N3.out 9).trans rfl; have y3_10 : w3.cell? ⟨w.heap.size, 10, none⟩ = some (.int .i64 a0_10) := (blk_cell N3.out 10).trans rfl; have y3_11 : w3.cell? ⟨w.heap.size, 11, none⟩ = some (.int .i64 a0_11) := (blk_cell N3.out 11).trans rfl; clear hb3))
  go_ret
  exact ⟨rfl, H3.out⟩
set_option maxHeartbeats 4000000 in
set_option maxRecDepth 100000 in
theorem form_r00 (a0_0 : Int) (a0_1 : Int) (a0_2 : Int) (A0_3 : Option Addr) (c0_3 : Nat) (l0_3 : List (List (S79))) (A0_4 : Option Addr) (c0_4 : Nat) (l0_4 : List ByteArray) (A0_5 : Option Addr) (c0_5 : Nat) (l0_5 : List Int) (A0_6 : Option Addr) (c0_6 : Nat) (l0_6 : List (S43)) (a0_7 : Int) (a0_8 : Int) (a0_9 : Int) (a0_10 : Int) (a0_11 : Int) (rs : List Int) (a1 : Int) (w : World) (h1 : 1 ≤ a0_0) (h2 : a0_0 ≤ 9) (h3 : l0_3.length ≤ 8) (h4 : l0_4.length ≤ 8) (h5 : l0_5.length ≤ 8) (h6 : l0_6.length ≤ 8) (hr0_3 : Kd.C (Kd.slice 79 k79) w A0_3 l0_3.length l0_3) (C24 : ∀ W, Below w.heap.size w W → Calls Try.prog 24 #[.agg #[.int .i64 a0_0, .int .i64 a0_1, .int .i64 a0_2, .slice A0_3 l0_3.length c0_3, .slice A0_4 l0_4.length c0_4, .slice A0_5 l0_5.length c0_5, .slice A0_6 l0_6.length c0_6, .int .i64 a0_7, .int .i64 a0_8, .int .i64 a0_9, .int .i64 a0_10, .int .i64 a0_11]] W fun e w' => e = .returned (.bool false) ∧ Below W.heap.size W w') (C25 : ∀ W, Below w.heap.size w W → Calls Try.prog 25 #[.agg #[.int .i64 a0_0, .int .i64 a0_1, .int .i64 a0_2, .slice A0_3 l0_3.length c0_3, .slice A0_4 l0_4.length c0_4, .slice A0_5 l0_5.length c0_5, .slice A0_6 l0_6.length c0_6, .int .i64 a0_7, .int .i64 a0_8, .int .i64 a0_9, .int .i64 a0_10, .int .i64 a0_11]] W fun e w' => e = .returned (.bool true) ∧ Below W.heap.size W w') (C26 : ∀ W, Below w.heap.size w W → Calls Try.prog 26 #[.agg #[.int .i64 a0_0, .int .i64 a0_1, .int .i64 a0_2, .slice A0_3 l0_3.length c0_3, .slice A0_4 l0_4.length c0_4, .slice A0_5 l0_5.length c0_5, .slice A0_6 l0_6.length c0_6, .int .i64 a0_7, .int .i64 a0_8, .int .i64 a0_9, .int .i64 a0_10, .int .i64 a0_11]] W fun e w' => e = .returned (.bool true) ∧ Below W.heap.size W w') (b6 : (a0_0 == 1) = false) (C13 : ∀ W, Below w.heap.size w W → Calls Try.prog 13 #[.agg #[.int .i64 a0_0, .int .i64 a0_1, .int .i64 a0_2, .slice A0_3 l0_3.length c0_3, .slice A0_4 l0_4.length c0_4, .slice A0_5 l0_5.length c0_5, .slice A0_6 l0_6.length c0_6, .int .i64 a0_7, .int .i64 a0_8, .int .i64 a0_9, .int .i64 a0_10, .int .i64 a0_11]] W fun e w' => ∃ v0_ : Value, e = .returned v0_ ∧ Kd.R (Kd.int .i64) 3 w' W.heap.size (fun _ => True) v0_ rs ∧ Below W.heap.size W w') (hrl : rs.length ≤ 1000) (HBB : RowKit.Hid ((rs.any fun i => decide (i < 0) || decide (i ≥ a1)) = false)) :
  Calls Try.prog 18 #[.agg #[.int .i64 a0_0, .int .i64 a0_1, .int .i64 a0_2, .slice A0_3 l0_3.length c0_3, .slice A0_4 l0_4.length c0_4, .slice A0_5 l0_5.length c0_5, .slice A0_6 l0_6.length c0_6, .int .i64 a0_7, .int .i64 a0_8, .int .i64 a0_9, .int .i64 a0_10, .int .i64 a0_11], .int .i64 a1] w fun e w' => e = .returned (.int .i64 (exprsV l0_3)) ∧ Below w.heap.size w w' := by
 have hu := Try.underlying40
 have HB := Lib.hid (form_bel w (.cells #[.int .i64 a0_0, .int .i64 a0_1, .int .i64 a0_2, .slice A0_3 l0_3.length c0_3, .slice A0_4 l0_4.length c0_4, .slice A0_5 l0_5.length c0_5, .slice A0_6 l0_6.length c0_6, .int .i64 a0_7, .int .i64 a0_8, .int .i64 a0_9, .int .i64 a0_10, .int .i64 a0_11] 40 (0, 0)) (.cells #[.int .i64 a1] 3 (0, 0)))
 have H0 := Lib.hid HB
 have N0 := Lib.hid (form_node w (.cells #[.int .i64 a0_0, .int .i64 a0_1, .int .i64 a0_2, .slice A0_3 l0_3.length c0_3, .slice A0_4 l0_4.length c0_4, .slice A0_5 l0_5.length c0_5, .slice A0_6 l0_6.length c0_6, .int .i64 a0_7, .int .i64 a0_8, .int .i64 a0_9, .int .i64 a0_10, .int .i64 a0_11] 40 (0, 0)) (.cells #[.int .i64 a1] 3 (0, 0)))
 have A0 := Lib.hid (form_at w (.cells #[.int .i64 a0_0, .int .i64 a0_1, .int .i64 a0_2, .slice A0_3 l0_3.length c0_3, .slice A0_4 l0_4.length c0_4, .slice A0_5 l0_5.length c0_5, .slice A0_6 l0_6.length c0_6, .int .i64 a0_7, .int .i64 a0_8, .int .i64 a0_9, .int .i64 a0_10, .int .i64 a0_11] 40 (0, 0)) (.cells #[.int .i64 a1] 3 (0, 0)))
 have C24h := Lib.hid C24
 have C25h := Lib.hid C25
 have C26h := Lib.hid C26
 clear C24 C25 C26
 have C13h := Lib.hid C13
 have hrs := Lib.hid hrl
 have HR3 := Aside0.mk hr0_3
 have hmf : ∀ (fn : Fn) (first cap : Array Value) (w : World), (Instr.makeFunc fn first cap).run Try.prog w = .ok (.func fn first cap) w := fun _ _ _ _ => rfl
 clear C13 hrl hr0_3
 obtain ⟨m1, hm1⟩ : ∃ m : Int, (if (l0_3.length : Int) < (l0_4.length : Int) then (l0_4.length : Int) else (l0_3.length : Int)) = m := ⟨_, rfl⟩
 obtain ⟨m2, hm2⟩ : ∃ m : Int, (if m1 < (l0_5.length : Int) then (l0_5.length : Int) else m1) = m := ⟨_, rfl⟩
 have hm3 : (if l0_3.length < l0_4.length then (l0_4.length : Int) else (l0_3.length : Int)) = m1 := by rw [← hm1]; split <;> split <;> first | rfl | omega
 have b1 : decide (a0_0 < 1) = false := decide_eq_false (by omega)
 have b2 : decide (a0_0 > 9) = false := decide_eq_false (by omega)
 have b3 : decide (m2 > 8) = false := by
  refine decide_eq_false ?_
  have e1 : m1 ≤ 8 := by rw [← hm1]; split <;> omega
  have e2 : m2 ≤ 8 := by rw [← hm2]; split <;> omega
  omega
 have b4 : decide ((l0_6.length : Int) > 8) = false := decide_eq_false (by omega)
 have b5 : decide (8 < l0_6.length) = false := decide_eq_false (by omega)
 have hx := Lib.hid h3
 clear h1 h2 h3 h4 h5 h6
 go_enter Try.func18, Try.ntmps18
 go_wp2_with (first
  | (go_at_call 24; (with_reducible refine (C24h.out _ ?hb).mono ?_); (case hb => exact H0.out); rintro e w1 ⟨rfl, hb1⟩; have H1 := Lib.hid (join_below H0.out hb1 ⟨rfl, rfl, rfl, rfl⟩ (by first | exact H0.out.size | simp)); have N1 := Lib.hid (loop_cells hb1 (v := _) ⟨rfl, rfl, rfl, rfl⟩ N0.out); have A1 := Lib.hid (loop_cells hb1 ⟨rfl, rfl, rfl, rfl⟩ A0.out); have y1_0 : w1.cell? ⟨w.heap.size, 0, none⟩ = some (.int .i64 a0_0) := (blk_cell N1.out 0).trans rfl; have y1_1 : w1.cell? ⟨w.heap.size, 1, none⟩ = some (.int .i64 a0_1) := (blk_cell N1.out 1).trans rfl; have y1_2 : w1.cell? ⟨w.heap.size, 2, none⟩ = some (.int .i64 a0_2) := (blk_cell N1.out 2).trans rfl; have y1_3 : w1.cell? ⟨w.heap.size, 3, none⟩ = some (.slice A0_3 l0_3.length c0_3) := (blk_cell N1.out 3).trans rfl; have y1_4 : w1.cell? ⟨w.heap.size, 4, none⟩ = some (.slice A0_4 l0_4.length c0_4) := (blk_cell N1.out 4).trans rfl; have y1_5 : w1.cell? ⟨w.heap.size, 5, none⟩ = some (.slice A0_5 l0_5.length c0_5) := (blk_cell N1.out 5).trans rfl; have y1_6 : w1.cell? ⟨w.heap.size, 6, none⟩ = some (.slice A0_6 l0_6.length c0_6) := (blk_cell N1.out 6).trans rfl; have y1_7 : w1.cell? ⟨w.heap.size, 7, none⟩ = some (.int .i64 a0_7) := (blk_cell N1.out 7).trans rfl; have y1_8 : w1.cell? ⟨w.heap.size, 8, none⟩ = some (.int .i64 a0_8) := (blk_cell N1.out 8).trans rfl; have y1_9 : w1.cell? ⟨w.heap.size, 9, none⟩ = some (.int .i64 a0_9) := (blk_cell N1.out 9).trans rfl; have y1_10 : w1.cell? ⟨w.heap.size, 10, none⟩ = some (.int .i64 a0_10) := (blk_cell N1.out 10).trans rfl; have y1_11 : w1.cell? ⟨w.heap.size, 11, none⟩ = some (.int .i64 a0_11) := (blk_cell N1.out 11).trans rfl; clear hb1)
  | (go_at_call 25; (with_reducible refine (C25h.out _ ?hb).mono ?_); (case hb => exact H1.out); rintro e w2 ⟨rfl, hb2⟩; have H2 := Lib.hid (join_below H1.out hb2 ⟨rfl, rfl, rfl, rfl⟩ (by first | exact H1.out.size | simp)); have N2 := Lib.hid (loop_cells hb2 (v := _) ⟨rfl, rfl, rfl, rfl⟩ N1.out); have A2 := Lib.hid (loop_cells hb2 ⟨rfl, rfl, rfl, rfl⟩ A1.out); have y2_0 : w2.cell? ⟨w.heap.size, 0, none⟩ = some (.int .i64 a0_0) := (blk_cell N2.out 0).trans rfl; have y2_1 : w2.cell? ⟨w.heap.size, 1, none⟩ = some (.int .i64 a0_1) := (blk_cell N2.out 1).trans rfl; have y2_2 : w2.cell? ⟨w.heap.size, 2, none⟩ = some (.int .i64 a0_2) := (blk_cell N2.out 2).trans rfl; have y2_3 : w2.cell? ⟨w.heap.size, 3, none⟩ = some (.slice A0_3 l0_3.length c0_3) := (blk_cell N2.out 3).trans rfl; have y2_4 : w2.cell? ⟨w.heap.size, 4, none⟩ = some (.slice A0_4 l0_4.length c0_4) := (blk_cell N2.out 4).trans rfl; have y2_5 : w2.cell? ⟨w.heap.size, 5, none⟩ = some (.slice A0_5 l0_5.length c0_5) := (blk_cell N2.out 5).trans rfl; have y2_6 : w2.cell? ⟨w.heap.size, 6, none⟩ = some (.slice A0_6 l0_6.length c0_6) := (blk_cell N2.out 6).trans rfl; have y2_7 : w2.cell? ⟨w.heap.size, 7, none⟩ = some (.int .i64 a0_7) := (blk_cell N2.out 7).trans rfl; have y2_8 : w2.cell? ⟨w.heap.size, 8, none⟩ = some (.int .i64 a0_8) := (blk_cell N2.out 8).trans rfl; have y2_9 : w2.cell? ⟨w.heap.size, 9, none⟩ = some (.int .i64 a0_9) := (blk_cell N2.out 9).trans rfl; have y2_10 : w2.cell? ⟨w.heap.size, 10, none⟩ = some (.int .i64 a0_10) := (blk_cell N2.out 10).trans rfl; have y2_11 : w2.cell? ⟨w.heap.size, 11, none⟩ = some (.int .i64 a0_11) := (blk_cell N2.out 11).trans rfl; clear hb2)
  | (go_at_call 26; (with_reducible refine (C26h.out _ ?hb).mono ?_); (case hb => exact H2.out); rintro e w3 ⟨rfl, hb3⟩; have H3 := Lib.hid (join_below H2.out hb3 ⟨rfl, rfl, rfl, rfl⟩ (by first | exact H2.out.size | simp)); have N3 := Lib.hid (loop_cells hb3 (v := _) ⟨rfl, rfl, rfl, rfl⟩ N2.out); have A3 := Lib.hid (loop_cells hb3 ⟨rfl, rfl, rfl, rfl⟩ A2.out); have y3_0 : w3.cell? ⟨w.heap.size, 0, none⟩ = some (.int .i64 a0_0) := (blk_cell N3.out 0).trans rfl; have y3_1 : w3.cell? ⟨w.heap.size, 1, none⟩ = some (.int .i64 a0_1) := (blk_cell N3.out 1).trans rfl; have y3_2 : w3.cell? ⟨w.heap.size, 2, none⟩ = some (.int .i64 a0_2) := (blk_cell N3.out 2).trans rfl; have y3_3 : w3.cell? ⟨w.heap.size, 3, none⟩ = some (.slice A0_3 l0_3.length c0_3) := (blk_cell N3.out 3).trans rfl; have y3_4 : w3.cell? ⟨w.heap.size, 4, none⟩ = some (.slice A0_4 l0_4.length c0_4) := (blk_cell N3.out 4).trans rfl; have y3_5 : w3.cell? ⟨w.heap.size, 5, none⟩ = some (.slice A0_5 l0_5.length c0_5) := (blk_cell N3.out 5).trans rfl; have y3_6 : w3.cell? ⟨w.heap.size, 6, none⟩ = some (.slice A0_6 l0_6.length c0_6) := (blk_cell N3.out 6).trans rfl; have y3_7 : w3.cell? ⟨w.heap.size, 7, none⟩ = some (.int .i64 a0_7) := (blk_cell N3.out 7).trans rfl; have y3_8 : w3.cell? ⟨w.heap.size, 8, none⟩ = some (.int .i64 a0_8) := (blk_cell N3.out 8).trans rfl; have y3_9 : w3.cell? ⟨w.heap.size, 9, none⟩ = some (.int .i64 a0_9) := (blk_cell N3.out 9).trans rfl; have y3_10 : w3.cell? ⟨w.heap.size, 10, none⟩ = some (.int .i64 a0_10) := (blk_cell N3.out 10).trans rfl; have y3_11 : w3.cell? ⟨w.heap.size, 11, none⟩ = some (.int .i64 a0_11) := (blk_cell N3.out 11).trans rfl; clear hb3)
  | (go_at_call 13; (with_reducible refine (C13h.out _ ?hb).mono ?_); (case hb => exact H3.out); rintro e w4 ⟨v0_, rfl, hR, hb4⟩; have H4 := Lib.hid (join_below H3.out hb4 ⟨rfl, rfl, rfl, rfl⟩ H3.out.size); have N4 := Lib.hid (loop_cells hb4 ⟨rfl, rfl, rfl, rfl⟩ N3.out); have A4 := Lib.hid (loop_cells hb4 ⟨rfl, rfl, rfl, rfl⟩ A3.out); obtain ⟨RA, Rc, hRe⟩ := Kd.R_slice hR; subst hRe; have HR4 := Lib.hid (Kd.R_reads' hR).2.2; have g4 := Lib.hid (Array.getElem?_eq_some_iff.1 A4.out).1; clear hb4 hR)
  | (go_at_call 27; (with_reducible refine (has_intc a1 _ _ rs _ _ ?hg ?hc ?hr ?hl _ HBB.out).mono ?_); (case hg => exact g4.out); (case hc => exact (blk_cell A4.out 0).trans rfl); (case hr => exact HR4.out); (case hl => exact hrs.out); rintro e w5 ⟨rfl, hb5⟩; have H5 := Lib.hid (join_below H4.out hb5 ⟨rfl, rfl, rfl, rfl⟩ H4.out.size); have N5 := Lib.hid (loop_cells hb5 ⟨rfl, rfl, rfl, rfl⟩ N4.out); have y5_0 : w5.cell? ⟨w.heap.size, 0, none⟩ = some (.int .i64 a0_0) := (blk_cell N5.out 0).trans rfl; have y5_1 : w5.cell? ⟨w.heap.size, 1, none⟩ = some (.int .i64 a0_1) := (blk_cell N5.out 1).trans rfl; have y5_2 : w5.cell? ⟨w.heap.size, 2, none⟩ = some (.int .i64 a0_2) := (blk_cell N5.out 2).trans rfl; have y5_3 : w5.cell? ⟨w.heap.size, 3, none⟩ = some (.slice A0_3 l0_3.length c0_3) := (blk_cell N5.out 3).trans rfl; have y5_4 : w5.cell? ⟨w.heap.size, 4, none⟩ = some (.slice A0_4 l0_4.length c0_4) := (blk_cell N5.out 4).trans rfl; have y5_5 : w5.cell? ⟨w.heap.size, 5, none⟩ = some (.slice A0_5 l0_5.length c0_5) := (blk_cell N5.out 5).trans rfl; have y5_6 : w5.cell? ⟨w.heap.size, 6, none⟩ = some (.slice A0_6 l0_6.length c0_6) := (blk_cell N5.out 6).trans rfl; have y5_7 : w5.cell? ⟨w.heap.size, 7, none⟩ = some (.int .i64 a0_7) := (blk_cell N5.out 7).trans rfl; have y5_8 : w5.cell? ⟨w.heap.size, 8, none⟩ = some (.int .i64 a0_8) := (blk_cell N5.out 8).trans rfl; have y5_9 : w5.cell? ⟨w.heap.size, 9, none⟩ = some (.int .i64 a0_9) := (blk_cell N5.out 9).trans rfl; have y5_10 : w5.cell? ⟨w.heap.size, 10, none⟩ = some (.int .i64 a0_10) := (blk_cell N5.out 10).trans rfl; have y5_11 : w5.cell? ⟨w.heap.size, 11, none⟩ = some (.int .i64 a0_11) := (blk_cell N5.out 11).trans rfl; clear hb5))
 go_loopw [70] (fun v70 wr => ∃ k : Nat, k ≤ l0_3.length ∧ v70 = .int .i64 (k : Int) ∧ Aside0 (exprsV (l0_3.drop k) = exprsV l0_3) ∧ Aside0 (Below w.heap.size w wr)) (fun v70 wr => l0_3.length - (intOf v70).toNat)
 case atStart => exact ⟨0, by omega, rfl, ⟨by simp⟩, ⟨H5.out⟩⟩
 case round =>
  obtain ⟨k, hk, rfl, HN, HBr⟩ := hrel
  have hk8 : l0_3.length ≤ 8 := hx.out
  by_cases c : k < l0_3.length
  ·obtain ⟨ad, Ax, cx, e1, hx0, hx1, hx2⟩ := at_L3 (Kd.C_below HR3.out HBr.out) (k : Int) (by omega) (by omega)
   have hrd : rd_L3 l0_3 (k : Int) = l0_3[k] := by
    unfold rd_L3
    rw [Int.toNat_natCast, List.getD_eq_getElem?_getD, List.getElem?_eq_getElem c]
    rfl
   obtain ⟨X, hX⟩ : ∃ X, l0_3[k] = X := ⟨_, rfl⟩
   have HD := Lib.hid (show l0_3.drop k = X :: l0_3.drop (k + 1) by rw [List.drop_eq_getElem_cons c, hX])
   rw [hrd, hX] at hx0 hx1 hx2
   rw [Int.toNat_natCast] at hx0
   cases e1
   have E := Lib.hid (eform_calls Ax cx X _ hx2 hx1)
   have HX := Lib.hid hX
   clear hrd hX hx1 hx2
   obtain ⟨v, hv⟩ : ∃ v, EvP.formV X = v := ⟨_, rfl⟩
   rw [hv] at E
   have HV := Lib.hid hv
   clear hv
   by_cases hz : v = 0
   ·have bz : (v != 0) = false := by simp [hz]
    have HZ := Lib.hid hz
    clear hz
    go_wp2_with ((with_reducible refine E.out.mono ?_); rintro e w' ⟨rfl, hb⟩)
    go_roundw
    case rel =>
     refine ⟨k + 1, by omega, by go_num, ⟨?_⟩, ⟨HBr.out.trans (hb.mono HBr.out.size)⟩⟩
     rw [← HN.out, HD.out]
     exact (if_pos (by rw [HV.out, HZ.out])).symm
    case measure =>
     simp [intOf]; omega
   ·have bz : (v != 0) = true := by simp [hz]
    have HZ := Lib.hid hz
    clear hz
    go_wp2_with ((with_reducible refine E.out.mono ?_); rintro e w' ⟨rfl, hb⟩)
    go_ret
    refine ⟨?_, HBr.out.trans (hb.mono HBr.out.size)⟩
    rw [← HN.out, HD.out]
    unfold exprsV
    rw [if_neg (by rw [HV.out]; exact HZ.out), HV.out]
    rfl
  ·obtain rfl : k = l0_3.length := by omega
   go_wp2
   go_ret
   refine ⟨?_, HBr.out⟩
   rw [← HN.out, List.drop_length]
   rfl
set_option maxHeartbeats 4000000 in
set_option maxRecDepth 100000 in
theorem form_r01 (a0_0 : Int) (a0_1 : Int) (a0_2 : Int) (A0_3 : Option Addr) (c0_3 : Nat) (l0_3 : List (List (S79))) (A0_4 : Option Addr) (c0_4 : Nat) (l0_4 : List ByteArray) (A0_5 : Option Addr) (c0_5 : Nat) (l0_5 : List Int) (A0_6 : Option Addr) (c0_6 : Nat) (l0_6 : List (S43)) (a0_7 : Int) (a0_8 : Int) (a0_9 : Int) (a0_10 : Int) (a0_11 : Int) (rs : List Int) (a1 : Int) (w : World) (h1 : 1 ≤ a0_0) (h2 : a0_0 ≤ 9) (h3 : l0_3.length ≤ 8) (h4 : l0_4.length ≤ 8) (h5 : l0_5.length ≤ 8) (h6 : l0_6.length ≤ 8) (hr0_3 : Kd.C (Kd.slice 79 k79) w A0_3 l0_3.length l0_3) (C24 : ∀ W, Below w.heap.size w W → Calls Try.prog 24 #[.agg #[.int .i64 a0_0, .int .i64 a0_1, .int .i64 a0_2, .slice A0_3 l0_3.length c0_3, .slice A0_4 l0_4.length c0_4, .slice A0_5 l0_5.length c0_5, .slice A0_6 l0_6.length c0_6, .int .i64 a0_7, .int .i64 a0_8, .int .i64 a0_9, .int .i64 a0_10, .int .i64 a0_11]] W fun e w' => e = .returned (.bool false) ∧ Below W.heap.size W w') (C25 : ∀ W, Below w.heap.size w W → Calls Try.prog 25 #[.agg #[.int .i64 a0_0, .int .i64 a0_1, .int .i64 a0_2, .slice A0_3 l0_3.length c0_3, .slice A0_4 l0_4.length c0_4, .slice A0_5 l0_5.length c0_5, .slice A0_6 l0_6.length c0_6, .int .i64 a0_7, .int .i64 a0_8, .int .i64 a0_9, .int .i64 a0_10, .int .i64 a0_11]] W fun e w' => e = .returned (.bool true) ∧ Below W.heap.size W w') (C26 : ∀ W, Below w.heap.size w W → Calls Try.prog 26 #[.agg #[.int .i64 a0_0, .int .i64 a0_1, .int .i64 a0_2, .slice A0_3 l0_3.length c0_3, .slice A0_4 l0_4.length c0_4, .slice A0_5 l0_5.length c0_5, .slice A0_6 l0_6.length c0_6, .int .i64 a0_7, .int .i64 a0_8, .int .i64 a0_9, .int .i64 a0_10, .int .i64 a0_11]] W fun e w' => e = .returned (.bool true) ∧ Below W.heap.size W w') (b6 : (a0_0 == 1) = true) (b7 : decide (a0_1 < 0) = false) (b8 : decide (a0_1 ≥ 8) = false) (C13 : ∀ W, Below w.heap.size w W → Calls Try.prog 13 #[.agg #[.int .i64 a0_0, .int .i64 a0_1, .int .i64 a0_2, .slice A0_3 l0_3.length c0_3, .slice A0_4 l0_4.length c0_4, .slice A0_5 l0_5.length c0_5, .slice A0_6 l0_6.length c0_6, .int .i64 a0_7, .int .i64 a0_8, .int .i64 a0_9, .int .i64 a0_10, .int .i64 a0_11]] W fun e w' => ∃ v0_ : Value, e = .returned v0_ ∧ Kd.R (Kd.int .i64) 3 w' W.heap.size (fun _ => True) v0_ rs ∧ Below W.heap.size W w') (hrl : rs.length ≤ 1000) (HBB : RowKit.Hid ((rs.any fun i => decide (i < 0) || decide (i ≥ a1)) = false)) :
  Calls Try.prog 18 #[.agg #[.int .i64 a0_0, .int .i64 a0_1, .int .i64 a0_2, .slice A0_3 l0_3.length c0_3, .slice A0_4 l0_4.length c0_4, .slice A0_5 l0_5.length c0_5, .slice A0_6 l0_6.length c0_6, .int .i64 a0_7, .int .i64 a0_8, .int .i64 a0_9, .int .i64 a0_10, .int .i64 a0_11], .int .i64 a1] w fun e w' => e = .returned (.int .i64 (exprsV l0_3)) ∧ Below w.heap.size w w' := by
 have hu := Try.underlying40
 have HB := Lib.hid (form_bel w (.cells #[.int .i64 a0_0, .int .i64 a0_1, .int .i64 a0_2, .slice A0_3 l0_3.length c0_3, .slice A0_4 l0_4.length c0_4, .slice A0_5 l0_5.length c0_5, .slice A0_6 l0_6.length c0_6, .int .i64 a0_7, .int .i64 a0_8, .int .i64 a0_9, .int .i64 a0_10, .int .i64 a0_11] 40 (0, 0)) (.cells #[.int .i64 a1] 3 (0, 0)))
 have H0 := Lib.hid HB
 have N0 := Lib.hid (form_node w (.cells #[.int .i64 a0_0, .int .i64 a0_1, .int .i64 a0_2, .slice A0_3 l0_3.length c0_3, .slice A0_4 l0_4.length c0_4, .slice A0_5 l0_5.length c0_5, .slice A0_6 l0_6.length c0_6, .int .i64 a0_7, .int .i64 a0_8, .int .i64 a0_9, .int .i64 a0_10, .int .i64 a0_11] 40 (0, 0)) (.cells #[.int .i64 a1] 3 (0, 0)))
 have A0 := Lib.hid (form_at w (.cells #[.int .i64 a0_0, .int .i64 a0_1, .int .i64 a0_2, .slice A0_3 l0_3.length c0_3, .slice A0_4 l0_4.length c0_4, .slice A0_5 l0_5.length c0_5, .slice A0_6 l0_6.length c0_6, .int .i64 a0_7, .int .i64 a0_8, .int .i64 a0_9, .int .i64 a0_10, .int .i64 a0_11] 40 (0, 0)) (.cells #[.int .i64 a1] 3 (0, 0)))
 have C24h := Lib.hid C24
 have C25h := Lib.hid C25
 have C26h := Lib.hid C26
 clear C24 C25 C26
 have C13h := Lib.hid C13
 have hrs := Lib.hid hrl
 have HR3 := Aside0.mk hr0_3
 have hmf : ∀ (fn : Fn) (first cap : Array Value) (w : World), (Instr.makeFunc fn first cap).run Try.prog w = .ok (.func fn first cap) w := fun _ _ _ _ => rfl
 clear C13 hrl hr0_3
 obtain ⟨m1, hm1⟩ : ∃ m : Int, (if (l0_3.length : Int) < (l0_4.length : Int) then (l0_4.length : Int) else (l0_3.length : Int)) = m := ⟨_, rfl⟩
 obtain ⟨m2, hm2⟩ : ∃ m : Int, (if m1 < (l0_5.length : Int) then (l0_5.length : Int) else m1) = m := ⟨_, rfl⟩
 have hm3 : (if l0_3.length < l0_4.length then (l0_4.length : Int) else (l0_3.length : Int)) = m1 := by rw [← hm1]; split <;> split <;> first | rfl | omega
 have b1 : decide (a0_0 < 1) = false := decide_eq_false (by omega)
 have b2 : decide (a0_0 > 9) = false := decide_eq_false (by omega)
 have b3 : decide (m2 > 8) = false := by
  refine decide_eq_false ?_
  have e1 : m1 ≤ 8 := by rw [← hm1]; split <;> omega
  have e2 : m2 ≤ 8 := by rw [← hm2]; split <;> omega
  omega
 have b4 : decide ((l0_6.length : Int) > 8) = false := decide_eq_false (by omega)
 have b5 : decide (8 < l0_6.length) = false := decide_eq_false (by omega)
 have hx := Lib.hid h3
 clear h1 h2 h3 h4 h5 h6
 go_enter Try.func18, Try.ntmps18
 go_wp2_with (first
  | (go_at_call 24; (with_reducible refine (C24h.out _ ?hb).mono ?_); (case hb => exact H0.out); rintro e w1 ⟨rfl, hb1⟩; have H1 := Lib.hid (join_below H0.out hb1 ⟨rfl, rfl, rfl, rfl⟩ (by first | exact H0.out.size | simp)); have N1 := Lib.hid (loop_cells hb1 (v := _) ⟨rfl, rfl, rfl, rfl⟩ N0.out); have A1 := Lib.hid (loop_cells hb1 ⟨rfl, rfl, rfl, rfl⟩ A0.out); have y1_0 : w1.cell? ⟨w.heap.size, 0, none⟩ = some (.int .i64 a0_0) := (blk_cell N1.out 0).trans rfl; have y1_1 : w1.cell? ⟨w.heap.size, 1, none⟩ = some (.int .i64 a0_1) := (blk_cell N1.out 1).trans rfl; have y1_2 : w1.cell? ⟨w.heap.size, 2, none⟩ = some (.int .i64 a0_2) := (blk_cell N1.out 2).trans rfl; have y1_3 : w1.cell? ⟨w.heap.size, 3, none⟩ = some (.slice A0_3 l0_3.length c0_3) := (blk_cell N1.out 3).trans rfl; have y1_4 : w1.cell? ⟨w.heap.size, 4, none⟩ = some (.slice A0_4 l0_4.length c0_4) := (blk_cell N1.out 4).trans rfl; have y1_5 : w1.cell? ⟨w.heap.size, 5, none⟩ = some (.slice A0_5 l0_5.length c0_5) := (blk_cell N1.out 5).trans rfl; have y1_6 : w1.cell? ⟨w.heap.size, 6, none⟩ = some (.slice A0_6 l0_6.length c0_6) := (blk_cell N1.out 6).trans rfl; have y1_7 : w1.cell? ⟨w.heap.size, 7, none⟩ = some (.int .i64 a0_7) := (blk_cell N1.out 7).trans rfl; have y1_8 : w1.cell? ⟨w.heap.size, 8, none⟩ = some (.int .i64 a0_8) := (blk_cell N1.out 8).trans rfl; have y1_9 : w1.cell? ⟨w.heap.size, 9, none⟩ = some (.int .i64 a0_9) := (blk_cell N1.out 9).trans rfl; have y1_10 : w1.cell? ⟨w.heap.size, 10, none⟩ = some (.int .i64 a0_10) := (blk_cell N1.out 10).trans rfl; have y1_11 : w1.cell? ⟨w.heap.size, 11, none⟩ = some (.int .i64 a0_11) := (blk_cell N1.out 11).trans rfl; clear hb1)
  | (go_at_call 25; (with_reducible refine (C25h.out _ ?hb).mono ?_); (case hb => exact H1.out); rintro e w2 ⟨rfl, hb2⟩; have H2 := Lib.hid (join_below H1.out hb2 ⟨rfl, rfl, rfl, rfl⟩ (by first | exact H1.out.size | simp)); have N2 := Lib.hid (loop_cells hb2 (v := _) ⟨rfl, rfl, rfl, rfl⟩ N1.out); have A2 := Lib.hid (loop_cells hb2 ⟨rfl, rfl, rfl, rfl⟩ A1.out); have y2_0 : w2.cell? ⟨w.heap.size, 0, none⟩ = some (.int .i64 a0_0) := (blk_cell N2.out 0).trans rfl; have y2_1 : w2.cell? ⟨w.heap.size, 1, none⟩ = some (.int .i64 a0_1) := (blk_cell N2.out 1).trans rfl; have y2_2 : w2.cell? ⟨w.heap.size, 2, none⟩ = some (.int .i64 a0_2) := (blk_cell N2.out 2).trans rfl; have y2_3 : w2.cell? ⟨w.heap.size, 3, none⟩ = some (.slice A0_3 l0_3.length c0_3) := (blk_cell N2.out 3).trans rfl; have y2_4 : w2.cell? ⟨w.heap.size, 4, none⟩ = some (.slice A0_4 l0_4.length c0_4) := (blk_cell N2.out 4).trans rfl; have y2_5 : w2.cell? ⟨w.heap.size, 5, none⟩ = some (.slice A0_5 l0_5.length c0_5) := (blk_cell N2.out 5).trans rfl; have y2_6 : w2.cell? ⟨w.heap.size, 6, none⟩ = some (.slice A0_6 l0_6.length c0_6) := (blk_cell N2.out 6).trans rfl; have y2_7 : w2.cell? ⟨w.heap.size, 7, none⟩ = some (.int .i64 a0_7) := (blk_cell N2.out 7).trans rfl; have y2_8 : w2.cell? ⟨w.heap.size, 8, none⟩ = some (.int .i64 a0_8) := (blk_cell N2.out 8).trans rfl; have y2_9 : w2.cell? ⟨w.heap.size, 9, none⟩ = some (.int .i64 a0_9) := (blk_cell N2.out 9).trans rfl; have y2_10 : w2.cell? ⟨w.heap.size, 10, none⟩ = some (.int .i64 a0_10) := (blk_cell N2.out 10).trans rfl; have y2_11 : w2.cell? ⟨w.heap.size, 11, none⟩ = some (.int .i64 a0_11) := (blk_cell N2.out 11).trans rfl; clear hb2)
  | (go_at_call 26; (with_reducible refine (C26h.out _ ?hb).mono ?_); (case hb => exact H2.out); rintro e w3 ⟨rfl, hb3⟩; have H3 := Lib.hid (join_below H2.out hb3 ⟨rfl, rfl, rfl, rfl⟩ (by first | exact H2.out.size | simp)); have N3 := Lib.hid (loop_cells hb3 (v := _) ⟨rfl, rfl, rfl, rfl⟩ N2.out); have A3 := Lib.hid (loop_cells hb3 ⟨rfl, rfl, rfl, rfl⟩ A2.out); have y3_0 : w3.cell? ⟨w.heap.size, 0, none⟩ = some (.int .i64 a0_0) := (blk_cell N3.out 0).trans rfl; have y3_1 : w3.cell? ⟨w.heap.size, 1, none⟩ = some (.int .i64 a0_1) := (blk_cell N3.out 1).trans rfl; have y3_2 : w3.cell? ⟨w.heap.size, 2, none⟩ = some (.int .i64 a0_2) := (blk_cell N3.out 2).trans rfl; have y3_3 : w3.cell? ⟨w.heap.size, 3, none⟩ = some (.slice A0_3 l0_3.length c0_3) := (blk_cell N3.out 3).trans rfl; have y3_4 : w3.cell? ⟨w.heap.size, 4, none⟩ = some (.slice A0_4 l0_4.length c0_4) := (blk_cell N3.out 4).trans rfl; have y3_5 : w3.cell? ⟨w.heap.size, 5, none⟩ = some (.slice A0_5 l0_5.length c0_5) := (blk_cell N3.out 5).trans rfl; have y3_6 : w3.cell? ⟨w.heap.size, 6, none⟩ = some (.slice A0_6 l0_6.length c0_6) := (blk_cell N3.out 6).trans rfl; have y3_7 : w3.cell? ⟨w.heap.size, 7, none⟩ = some (.int .i64 a0_7) := (blk_cell N3.out 7).trans rfl; have y3_8 : w3.cell? ⟨w.heap.size, 8, none⟩ = some (.int .i64 a0_8) := (blk_cell N3.out 8).trans rfl; have y3_9 : w3.cell? ⟨w.heap.size, 9, none⟩ = some (.int .i64 a0_9) := (blk_cell N3.out 9).trans rfl; have y3_10 : w3.cell? ⟨w.heap.size, 10, none⟩ = some (.int .i64 a0_10) := (blk_cell N3.out 10).trans rfl; have y3_11 : w3.cell? ⟨w.heap.size, 11, none⟩ = some (.int .i64 a0_11) := (blk_cell N3.out 11).trans rfl; clear hb3)
  | (go_at_call 13; (with_reducible refine (C13h.out _ ?hb).mono ?_); (case hb => exact H3.out); rintro e w4 ⟨v0_, rfl, hR, hb4⟩; have H4 := Lib.hid (join_below H3.out hb4 ⟨rfl, rfl, rfl, rfl⟩ H3.out.size); have N4 := Lib.hid (loop_cells hb4 ⟨rfl, rfl, rfl, rfl⟩ N3.out); have A4 := Lib.hid (loop_cells hb4 ⟨rfl, rfl, rfl, rfl⟩ A3.out); obtain ⟨RA, Rc, hRe⟩ := Kd.R_slice hR; subst hRe; have HR4 := Lib.hid (Kd.R_reads' hR).2.2; have g4 := Lib.hid (Array.getElem?_eq_some_iff.1 A4.out).1; clear hb4 hR)
  | (go_at_call 27; (with_reducible refine (has_intc a1 _ _ rs _ _ ?hg ?hc ?hr ?hl _ HBB.out).mono ?_); (case hg => exact g4.out); (case hc => exact (blk_cell A4.out 0).trans rfl); (case hr => exact HR4.out); (case hl => exact hrs.out); rintro e w5 ⟨rfl, hb5⟩; have H5 := Lib.hid (join_below H4.out hb5 ⟨rfl, rfl, rfl, rfl⟩ H4.out.size); have N5 := Lib.hid (loop_cells hb5 ⟨rfl, rfl, rfl, rfl⟩ N4.out); have y5_0 : w5.cell? ⟨w.heap.size, 0, none⟩ = some (.int .i64 a0_0) := (blk_cell N5.out 0).trans rfl; have y5_1 : w5.cell? ⟨w.heap.size, 1, none⟩ = some (.int .i64 a0_1) := (blk_cell N5.out 1).trans rfl; have y5_2 : w5.cell? ⟨w.heap.size, 2, none⟩ = some (.int .i64 a0_2) := (blk_cell N5.out 2).trans rfl; have y5_3 : w5.cell? ⟨w.heap.size, 3, none⟩ = some (.slice A0_3 l0_3.length c0_3) := (blk_cell N5.out 3).trans rfl; have y5_4 : w5.cell? ⟨w.heap.size, 4, none⟩ = some (.slice A0_4 l0_4.length c0_4) := (blk_cell N5.out 4).trans rfl; have y5_5 : w5.cell? ⟨w.heap.size, 5, none⟩ = some (.slice A0_5 l0_5.length c0_5) := (blk_cell N5.out 5).trans rfl; have y5_6 : w5.cell? ⟨w.heap.size, 6, none⟩ = some (.slice A0_6 l0_6.length c0_6) := (blk_cell N5.out 6).trans rfl; have y5_7 : w5.cell? ⟨w.heap.size, 7, none⟩ = some (.int .i64 a0_7) := (blk_cell N5.out 7).trans rfl; have y5_8 : w5.cell? ⟨w.heap.size, 8, none⟩ = some (.int .i64 a0_8) := (blk_cell N5.out 8).trans rfl; have y5_9 : w5.cell? ⟨w.heap.size, 9, none⟩ = some (.int .i64 a0_9) := (blk_cell N5.out 9).trans rfl; have y5_10 : w5.cell? ⟨w.heap.size, 10, none⟩ = some (.int .i64 a0_10) := (blk_cell N5.out 10).trans rfl; have y5_11 : w5.cell? ⟨w.heap.size, 11, none⟩ = some (.int .i64 a0_11) := (blk_cell N5.out 11).trans rfl; clear hb5))
 go_loopw [70] (fun v70 wr => ∃ k : Nat, k ≤ l0_3.length ∧ v70 = .int .i64 (k : Int) ∧ Aside0 (exprsV (l0_3.drop k) = exprsV l0_3) ∧ Aside0 (Below w.heap.size w wr)) (fun v70 wr => l0_3.length - (intOf v70).toNat)
 case atStart => exact ⟨0, by omega, rfl, ⟨by simp⟩, ⟨H5.out⟩⟩
 case round =>
  obtain ⟨k, hk, rfl, HN, HBr⟩ := hrel
  have hk8 : l0_3.length ≤ 8 := hx.out
  by_cases c : k < l0_3.length
  ·obtain ⟨ad, Ax, cx, e1, hx0, hx1, hx2⟩ := at_L3 (Kd.C_below HR3.out HBr.out) (k : Int) (by omega) (by omega)
   have hrd : rd_L3 l0_3 (k : Int) = l0_3[k] := by
    unfold rd_L3
    rw [Int.toNat_natCast, List.getD_eq_getElem?_getD, List.getElem?_eq_getElem c]
    rfl
   obtain ⟨X, hX⟩ : ∃ X, l0_3[k] = X := ⟨_, rfl⟩
   have HD := Lib.hid (show l0_3.drop k = X :: l0_3.drop (k + 1) by rw [List.drop_eq_getElem_cons c, hX])
   rw [hrd, hX] at hx0 hx1 hx2
   rw [Int.toNat_natCast] at hx0
   cases e1
   have E := Lib.hid (eform_calls Ax cx X _ hx2 hx1)
   have HX := Lib.hid hX
   clear hrd hX hx1 hx2
   obtain ⟨v, hv⟩ : ∃ v, EvP.formV X = v := ⟨_, rfl⟩
   rw [hv] at E
   have HV := Lib.hid hv
   clear hv
   by_cases hz : v = 0
   ·have bz : (v != 0) = false := by simp [hz]
    have HZ := Lib.hid hz
    clear hz
    go_wp2_with ((with_reducible refine E.out.mono ?_); rintro e w' ⟨rfl, hb⟩)
    go_roundw
    case rel =>
     refine ⟨k + 1, by omega, by go_num, ⟨?_⟩, ⟨HBr.out.trans (hb.mono HBr.out.size)⟩⟩
     rw [← HN.out, HD.out]
     exact (if_pos (by rw [HV.out, HZ.out])).symm
    case measure =>
     simp [intOf]; omega
   ·have bz : (v != 0) = true := by simp [hz]
    have HZ := Lib.hid hz
    clear hz
    go_wp2_with ((with_reducible refine E.out.mono ?_); rintro e w' ⟨rfl, hb⟩)
    go_ret
    refine ⟨?_, HBr.out.trans (hb.mono HBr.out.size)⟩
    rw [← HN.out, HD.out]
    unfold exprsV
    rw [if_neg (by rw [HV.out]; exact HZ.out), HV.out]
    rfl
  ·obtain rfl : k = l0_3.length := by omega
   go_wp2
   go_ret
   refine ⟨?_, HBr.out⟩
   rw [← HN.out, List.drop_length]
   rfl
set_option maxHeartbeats 4000000 in
set_option maxRecDepth 100000 in
theorem form_r10 (a0_0 : Int) (a0_1 : Int) (a0_2 : Int) (A0_3 : Option Addr) (c0_3 : Nat) (l0_3 : List (List (S79))) (A0_4 : Option Addr) (c0_4 : Nat) (l0_4 : List ByteArray) (A0_5 : Option Addr) (c0_5 : Nat) (l0_5 : List Int) (A0_6 : Option Addr) (c0_6 : Nat) (l0_6 : List (S43)) (a0_7 : Int) (a0_8 : Int) (a0_9 : Int) (a0_10 : Int) (a0_11 : Int) (rs : List Int) (a1 : Int) (w : World) (h1 : 1 ≤ a0_0) (h2 : a0_0 ≤ 9) (h3 : l0_3.length ≤ 8) (h4 : l0_4.length ≤ 8) (h5 : l0_5.length ≤ 8) (h6 : l0_6.length ≤ 8) (hr0_3 : Kd.C (Kd.slice 79 k79) w A0_3 l0_3.length l0_3) (C24 : ∀ W, Below w.heap.size w W → Calls Try.prog 24 #[.agg #[.int .i64 a0_0, .int .i64 a0_1, .int .i64 a0_2, .slice A0_3 l0_3.length c0_3, .slice A0_4 l0_4.length c0_4, .slice A0_5 l0_5.length c0_5, .slice A0_6 l0_6.length c0_6, .int .i64 a0_7, .int .i64 a0_8, .int .i64 a0_9, .int .i64 a0_10, .int .i64 a0_11]] W fun e w' => e = .returned (.bool false) ∧ Below W.heap.size W w') (C25 : ∀ W, Below w.heap.size w W → Calls Try.prog 25 #[.agg #[.int .i64 a0_0, .int .i64 a0_1, .int .i64 a0_2, .slice A0_3 l0_3.length c0_3, .slice A0_4 l0_4.length c0_4, .slice A0_5 l0_5.length c0_5, .slice A0_6 l0_6.length c0_6, .int .i64 a0_7, .int .i64 a0_8, .int .i64 a0_9, .int .i64 a0_10, .int .i64 a0_11]] W fun e w' => e = .returned (.bool true) ∧ Below W.heap.size W w') (C26 : ∀ W, Below w.heap.size w W → Calls Try.prog 26 #[.agg #[.int .i64 a0_0, .int .i64 a0_1, .int .i64 a0_2, .slice A0_3 l0_3.length c0_3, .slice A0_4 l0_4.length c0_4, .slice A0_5 l0_5.length c0_5, .slice A0_6 l0_6.length c0_6, .int .i64 a0_7, .int .i64 a0_8, .int .i64 a0_9, .int .i64 a0_10, .int .i64 a0_11]] W fun e w' => e = .returned (.bool true) ∧ Below W.heap.size W w') (b6 : (a0_0 == 1) = false) (C13 : ∀ W, Below w.heap.size w W → Calls Try.prog 13 #[.agg #[.int .i64 a0_0, .int .i64 a0_1, .int .i64 a0_2, .slice A0_3 l0_3.length c0_3, .slice A0_4 l0_4.length c0_4, .slice A0_5 l0_5.length c0_5, .slice A0_6 l0_6.length c0_6, .int .i64 a0_7, .int .i64 a0_8, .int .i64 a0_9, .int .i64 a0_10, .int .i64 a0_11]] W fun e w' => ∃ v0_ : Value, e = .returned v0_ ∧ Kd.R (Kd.int .i64) 3 w' W.heap.size (fun _ => True) v0_ rs ∧ Below W.heap.size W w') (hrl : rs.length ≤ 1000) (HBB : RowKit.Hid ((rs.any fun i => decide (i < 0) || decide (i ≥ a1)) = true)) :
  Calls Try.prog 18 #[.agg #[.int .i64 a0_0, .int .i64 a0_1, .int .i64 a0_2, .slice A0_3 l0_3.length c0_3, .slice A0_4 l0_4.length c0_4, .slice A0_5 l0_5.length c0_5, .slice A0_6 l0_6.length c0_6, .int .i64 a0_7, .int .i64 a0_8, .int .i64 a0_9, .int .i64 a0_10, .int .i64 a0_11], .int .i64 a1] w fun e w' => e = .returned (.int .i64 3) ∧ Below w.heap.size w w' := by
 have hu := Try.underlying40
 have HB := Lib.hid (form_bel w (.cells #[.int .i64 a0_0, .int .i64 a0_1, .int .i64 a0_2, .slice A0_3 l0_3.length c0_3, .slice A0_4 l0_4.length c0_4, .slice A0_5 l0_5.length c0_5, .slice A0_6 l0_6.length c0_6, .int .i64 a0_7, .int .i64 a0_8, .int .i64 a0_9, .int .i64 a0_10, .int .i64 a0_11] 40 (0, 0)) (.cells #[.int .i64 a1] 3 (0, 0)))
 have H0 := Lib.hid HB
 have N0 := Lib.hid (form_node w (.cells #[.int .i64 a0_0, .int .i64 a0_1, .int .i64 a0_2, .slice A0_3 l0_3.length c0_3, .slice A0_4 l0_4.length c0_4, .slice A0_5 l0_5.length c0_5, .slice A0_6 l0_6.length c0_6, .int .i64 a0_7, .int .i64 a0_8, .int .i64 a0_9, .int .i64 a0_10, .int .i64 a0_11] 40 (0, 0)) (.cells #[.int .i64 a1] 3 (0, 0)))
 have A0 := Lib.hid (form_at w (.cells #[.int .i64 a0_0, .int .i64 a0_1, .int .i64 a0_2, .slice A0_3 l0_3.length c0_3, .slice A0_4 l0_4.length c0_4, .slice A0_5 l0_5.length c0_5, .slice A0_6 l0_6.length c0_6, .int .i64 a0_7, .int .i64 a0_8, .int .i64 a0_9, .int .i64 a0_10, .int .i64 a0_11] 40 (0, 0)) (.cells #[.int .i64 a1] 3 (0, 0)))
 have C24h := Lib.hid C24
 have C25h := Lib.hid C25
 have C26h := Lib.hid C26
 clear C24 C25 C26
 have C13h := Lib.hid C13
 have hrs := Lib.hid hrl
 have HR3 := Aside0.mk hr0_3
 have hmf : ∀ (fn : Fn) (first cap : Array Value) (w : World), (Instr.makeFunc fn first cap).run Try.prog w = .ok (.func fn first cap) w := fun _ _ _ _ => rfl
 clear C13 hrl hr0_3
 obtain ⟨m1, hm1⟩ : ∃ m : Int, (if (l0_3.length : Int) < (l0_4.length : Int) then (l0_4.length : Int) else (l0_3.length : Int)) = m := ⟨_, rfl⟩
 obtain ⟨m2, hm2⟩ : ∃ m : Int, (if m1 < (l0_5.length : Int) then (l0_5.length : Int) else m1) = m := ⟨_, rfl⟩
 have hm3 : (if l0_3.length < l0_4.length then (l0_4.length : Int) else (l0_3.length : Int)) = m1 := by rw [← hm1]; split <;> split <;> first | rfl | omega
 have b1 : decide (a0_0 < 1) = false := decide_eq_false (by omega)
 have b2 : decide (a0_0 > 9) = false := decide_eq_false (by omega)
 have b3 : decide (m2 > 8) = false := by
  refine decide_eq_false ?_
  have e1 : m1 ≤ 8 := by rw [← hm1]; split <;> omega
  have e2 : m2 ≤ 8 := by rw [← hm2]; split <;> omega
  omega
 have b4 : decide ((l0_6.length : Int) > 8) = false := decide_eq_false (by omega)
 have b5 : decide (8 < l0_6.length) = false := decide_eq_false (by omega)
 have hx := Lib.hid h3
 clear h1 h2 h3 h4 h5 h6
 go_enter Try.func18, Try.ntmps18
 go_wp2_with (first
  | (go_at_call 24; (with_reducible refine (C24h.out _ ?hb).mono ?_); (case hb => exact H0.out); rintro e w1 ⟨rfl, hb1⟩; have H1 := Lib.hid (join_below H0.out hb1 ⟨rfl, rfl, rfl, rfl⟩ (by first | exact H0.out.size | simp)); have N1 := Lib.hid (loop_cells hb1 (v := _) ⟨rfl, rfl, rfl, rfl⟩ N0.out); have A1 := Lib.hid (loop_cells hb1 ⟨rfl, rfl, rfl, rfl⟩ A0.out); have y1_0 : w1.cell? ⟨w.heap.size, 0, none⟩ = some (.int .i64 a0_0) := (blk_cell N1.out 0).trans rfl; have y1_1 : w1.cell? ⟨w.heap.size, 1, none⟩ = some (.int .i64 a0_1) := (blk_cell N1.out 1).trans rfl; have y1_2 : w1.cell? ⟨w.heap.size, 2, none⟩ = some (.int .i64 a0_2) := (blk_cell N1.out 2).trans rfl; have y1_3 : w1.cell? ⟨w.heap.size, 3, none⟩ = some (.slice A0_3 l0_3.length c0_3) := (blk_cell N1.out 3).trans rfl; have y1_4 : w1.cell? ⟨w.heap.size, 4, none⟩ = some (.slice A0_4 l0_4.length c0_4) := (blk_cell N1.out 4).trans rfl; have y1_5 : w1.cell? ⟨w.heap.size, 5, none⟩ = some (.slice A0_5 l0_5.length c0_5) := (blk_cell N1.out 5).trans rfl; have y1_6 : w1.cell? ⟨w.heap.size, 6, none⟩ = some (.slice A0_6 l0_6.length c0_6) := (blk_cell N1.out 6).trans rfl; have y1_7 : w1.cell? ⟨w.heap.size, 7, none⟩ = some (.int .i64 a0_7) := (blk_cell N1.out 7).trans rfl; have y1_8 : w1.cell? ⟨w.heap.size, 8, none⟩ = some (.int .i64 a0_8) := (blk_cell N1.out 8).trans rfl; have y1_9 : w1.cell? ⟨w.heap.size, 9, none⟩ = some (.int .i64 a0_9) := (blk_cell N1.out 9).trans rfl; have y1_10 : w1.cell? ⟨w.heap.size, 10, none⟩ = some (.int .i64 a0_10) := (blk_cell N1.out 10).trans rfl; have y1_11 : w1.cell? ⟨w.heap.size, 11, none⟩ = some (.int .i64 a0_11) := (blk_cell N1.out 11).trans rfl; clear hb1)
  | (go_at_call 25; (with_reducible refine (C25h.out _ ?hb).mono ?_); (case hb => exact H1.out); rintro e w2 ⟨rfl, hb2⟩; have H2 := Lib.hid (join_below H1.out hb2 ⟨rfl, rfl, rfl, rfl⟩ (by first | exact H1.out.size | simp)); have N2 := Lib.hid (loop_cells hb2 (v := _) ⟨rfl, rfl, rfl, rfl⟩ N1.out); have A2 := Lib.hid (loop_cells hb2 ⟨rfl, rfl, rfl, rfl⟩ A1.out); have y2_0 : w2.cell? ⟨w.heap.size, 0, none⟩ = some (.int .i64 a0_0) := (blk_cell N2.out 0).trans rfl; have y2_1 : w2.cell? ⟨w.heap.size, 1, none⟩ = some (.int .i64 a0_1) := (blk_cell N2.out 1).trans rfl; have y2_2 : w2.cell? ⟨w.heap.size, 2, none⟩ = some (.int .i64 a0_2) := (blk_cell N2.out 2).trans rfl; have y2_3 : w2.cell? ⟨w.heap.size, 3, none⟩ = some (.slice A0_3 l0_3.length c0_3) := (blk_cell N2.out 3).trans rfl; have y2_4 : w2.cell? ⟨w.heap.size, 4, none⟩ = some (.slice A0_4 l0_4.length c0_4) := (blk_cell N2.out 4).trans rfl; have y2_5 : w2.cell? ⟨w.heap.size, 5, none⟩ = some (.slice A0_5 l0_5.length c0_5) := (blk_cell N2.out 5).trans rfl; have y2_6 : w2.cell? ⟨w.heap.size, 6, none⟩ = some (.slice A0_6 l0_6.length c0_6) := (blk_cell N2.out 6).trans rfl; have y2_7 : w2.cell? ⟨w.heap.size, 7, none⟩ = some (.int .i64 a0_7) := (blk_cell N2.out 7).trans rfl; have y2_8 : w2.cell? ⟨w.heap.size, 8, none⟩ = some (.int .i64 a0_8) := (blk_cell N2.out 8).trans rfl; have y2_9 : w2.cell? ⟨w.heap.size, 9, none⟩ = some (.int .i64 a0_9) := (blk_cell N2.out 9).trans rfl; have y2_10 : w2.cell? ⟨w.heap.size, 10, none⟩ = some (.int .i64 a0_10) := (blk_cell N2.out 10).trans rfl; have y2_11 : w2.cell? ⟨w.heap.size, 11, none⟩ = some (.int .i64 a0_11) := (blk_cell N2.out 11).trans rfl; clear hb2)
  | (go_at_call 26; (with_reducible refine (C26h.out _ ?hb).mono ?_); (case hb => exact H2.out); rintro e w3 ⟨rfl, hb3⟩; have H3 := Lib.hid (join_below H2.out hb3 ⟨rfl, rfl, rfl, rfl⟩ (by first | exact H2.out.size | simp)); have N3 := Lib.hid (loop_cells hb3 (v := _) ⟨rfl, rfl, rfl, rfl⟩ N2.out); have A3 := Lib.hid (loop_cells hb3 ⟨rfl, rfl, rfl, rfl⟩ A2.out); have y3_0 : w3.cell? ⟨w.heap.size, 0, none⟩ = some (.int .i64 a0_0) := (blk_cell N3.out 0).trans rfl; have y3_1 : w3.cell? ⟨w.heap.size, 1, none⟩ = some (.int .i64 a0_1) := (blk_cell N3.out 1).trans rfl; have y3_2 : w3.cell? ⟨w.heap.size, 2, none⟩ = some (.int .i64 a0_2) := (blk_cell N3.out 2).trans rfl; have y3_3 : w3.cell? ⟨w.heap.size, 3, none⟩ = some (.slice A0_3 l0_3.length c0_3) := (blk_cell N3.out 3).trans rfl; have y3_4 : w3.cell? ⟨w.heap.size, 4, none⟩ = some (.slice A0_4 l0_4.length c0_4) := (blk_cell N3.out 4).trans rfl; have y3_5 : w3.cell? ⟨w.heap.size, 5, none⟩ = some (.slice A0_5 l0_5.length c0_5) := (blk_cell N3.out 5).trans rfl; have y3_6 : w3.cell? ⟨w.heap.size, 6, none⟩ = some (.slice A0_6 l0_6.length c0_6) := (blk_cell N3.out 6).trans rfl; have y3_7 : w3.cell? ⟨w.heap.size, 7, none⟩ = some (.int .i64 a0_7) := (blk_cell N3.out 7).trans rfl; have y3_8 : w3.cell? ⟨w.heap.size, 8, none⟩ = some (.int .i64 a0_8) := (blk_cell N3.out 8).trans rfl; have y3_9 : w3.cell? ⟨w.heap.size, 9, none⟩ = some (.int .i64 a0_9) := (blk_cell N3.out 9).trans rfl; have y3_10 : w3.cell? ⟨w.heap.size, 10, none⟩ = some (.int .i64 a0_10) := (blk_cell N3.out 10).trans rfl; have y3_11 : w3.cell? ⟨w.heap.size, 11, none⟩ = some (.int .i64 a0_11) := (blk_cell N3.out 11).trans rfl; clear hb3)
  | (go_at_call 13; (with_reducible refine (C13h.out _ ?hb).mono ?_); (case hb => exact H3.out); rintro e w4 ⟨v0_, rfl, hR, hb4⟩; have H4 := Lib.hid (join_below H3.out hb4 ⟨rfl, rfl, rfl, rfl⟩ H3.out.size); have N4 := Lib.hid (loop_cells hb4 ⟨rfl, rfl, rfl, rfl⟩ N3.out); have A4 := Lib.hid (loop_cells hb4 ⟨rfl, rfl, rfl, rfl⟩ A3.out); obtain ⟨RA, Rc, hRe⟩ := Kd.R_slice hR; subst hRe; have HR4 := Lib.hid (Kd.R_reads' hR).2.2; have g4 := Lib.hid (Array.getElem?_eq_some_iff.1 A4.out).1; clear hb4 hR)
  | (go_at_call 27; (with_reducible refine (has_intc a1 _ _ rs _ _ ?hg ?hc ?hr ?hl _ HBB.out).mono ?_); (case hg => exact g4.out); (case hc => exact (blk_cell A4.out 0).trans rfl); (case hr => exact HR4.out); (case hl => exact hrs.out); rintro e w5 ⟨rfl, hb5⟩; have H5 := Lib.hid (join_below H4.out hb5 ⟨rfl, rfl, rfl, rfl⟩ H4.out.size); have N5 := Lib.hid (loop_cells hb5 ⟨rfl, rfl, rfl, rfl⟩ N4.out); have y5_0 : w5.cell? ⟨w.heap.size, 0, none⟩ = some (.int .i64 a0_0) := (blk_cell N5.out 0).trans rfl; have y5_1 : w5.cell? ⟨w.heap.size, 1, none⟩ = some (.int .i64 a0_1) := (blk_cell N5.out 1).trans rfl; have y5_2 : w5.cell? ⟨w.heap.size, 2, none⟩ = some (.int .i64 a0_2) := (blk_cell N5.out 2).trans rfl; have y5_3 : w5.cell? ⟨w.heap.size, 3, none⟩ = some (.slice A0_3 l0_3.length c0_3) := (blk_cell N5.out 3).trans rfl; have y5_4 : w5.cell? ⟨w.heap.size, 4, none⟩ = some (.slice A0_4 l0_4.length c0_4) := (blk_cell N5.out 4).trans rfl; have y5_5 : w5.cell? ⟨w.heap.size, 5, none⟩ = some (.slice A0_5 l0_5.length c0_5) := (blk_cell N5.out 5).trans rfl; have y5_6 : w5.cell? ⟨w.heap.size, 6, none⟩ = some (.slice A0_6 l0_6.length c0_6) := (blk_cell N5.out 6).trans rfl; have y5_7 : w5.cell? ⟨w.heap.size, 7, none⟩ = some (.int .i64 a0_7) := (blk_cell N5.out 7).trans rfl; have y5_8 : w5.cell? ⟨w.heap.size, 8, none⟩ = some (.int .i64 a0_8) := (blk_cell N5.out 8).trans rfl; have y5_9 : w5.cell? ⟨w.heap.size, 9, none⟩ = some (.int .i64 a0_9) := (blk_cell N5.out 9).trans rfl; have y5_10 : w5.cell? ⟨w.heap.size, 10, none⟩ = some (.int .i64 a0_10) := (blk_cell N5.out 10).trans rfl; have y5_11 : w5.cell? ⟨w.heap.size, 11, none⟩ = some (.int .i64 a0_11) := (blk_cell N5.out 11).trans rfl; clear hb5))
 go_ret
 exact ⟨rfl, H5.out⟩
set_option maxHeartbeats 4000000 in
set_option maxRecDepth 100000 in
theorem form_r11 (a0_0 : Int) (a0_1 : Int) (a0_2 : Int) (A0_3 : Option Addr) (c0_3 : Nat) (l0_3 : List (List (S79))) (A0_4 : Option Addr) (c0_4 : Nat) (l0_4 : List ByteArray) (A0_5 : Option Addr) (c0_5 : Nat) (l0_5 : List Int) (A0_6 : Option Addr) (c0_6 : Nat) (l0_6 : List (S43)) (a0_7 : Int) (a0_8 : Int) (a0_9 : Int) (a0_10 : Int) (a0_11 : Int) (rs : List Int) (a1 : Int) (w : World) (h1 : 1 ≤ a0_0) (h2 : a0_0 ≤ 9) (h3 : l0_3.length ≤ 8) (h4 : l0_4.length ≤ 8) (h5 : l0_5.length ≤ 8) (h6 : l0_6.length ≤ 8) (hr0_3 : Kd.C (Kd.slice 79 k79) w A0_3 l0_3.length l0_3) (C24 : ∀ W, Below w.heap.size w W → Calls Try.prog 24 #[.agg #[.int .i64 a0_0, .int .i64 a0_1, .int .i64 a0_2, .slice A0_3 l0_3.length c0_3, .slice A0_4 l0_4.length c0_4, .slice A0_5 l0_5.length c0_5, .slice A0_6 l0_6.length c0_6, .int .i64 a0_7, .int .i64 a0_8, .int .i64 a0_9, .int .i64 a0_10, .int .i64 a0_11]] W fun e w' => e = .returned (.bool false) ∧ Below W.heap.size W w') (C25 : ∀ W, Below w.heap.size w W → Calls Try.prog 25 #[.agg #[.int .i64 a0_0, .int .i64 a0_1, .int .i64 a0_2, .slice A0_3 l0_3.length c0_3, .slice A0_4 l0_4.length c0_4, .slice A0_5 l0_5.length c0_5, .slice A0_6 l0_6.length c0_6, .int .i64 a0_7, .int .i64 a0_8, .int .i64 a0_9, .int .i64 a0_10, .int .i64 a0_11]] W fun e w' => e = .returned (.bool true) ∧ Below W.heap.size W w') (C26 : ∀ W, Below w.heap.size w W → Calls Try.prog 26 #[.agg #[.int .i64 a0_0, .int .i64 a0_1, .int .i64 a0_2, .slice A0_3 l0_3.length c0_3, .slice A0_4 l0_4.length c0_4, .slice A0_5 l0_5.length c0_5, .slice A0_6 l0_6.length c0_6, .int .i64 a0_7, .int .i64 a0_8, .int .i64 a0_9, .int .i64 a0_10, .int .i64 a0_11]] W fun e w' => e = .returned (.bool true) ∧ Below W.heap.size W w') (b6 : (a0_0 == 1) = true) (b7 : decide (a0_1 < 0) = false) (b8 : decide (a0_1 ≥ 8) = false) (C13 : ∀ W, Below w.heap.size w W → Calls Try.prog 13 #[.agg #[.int .i64 a0_0, .int .i64 a0_1, .int .i64 a0_2, .slice A0_3 l0_3.length c0_3, .slice A0_4 l0_4.length c0_4, .slice A0_5 l0_5.length c0_5, .slice A0_6 l0_6.length c0_6, .int .i64 a0_7, .int .i64 a0_8, .int .i64 a0_9, .int .i64 a0_10, .int .i64 a0_11]] W fun e w' => ∃ v0_ : Value, e = .returned v0_ ∧ Kd.R (Kd.int .i64) 3 w' W.heap.size (fun _ => True) v0_ rs ∧ Below W.heap.size W w') (hrl : rs.length ≤ 1000) (HBB : RowKit.Hid ((rs.any fun i => decide (i < 0) || decide (i ≥ a1)) = true)) :
  Calls Try.prog 18 #[.agg #[.int .i64 a0_0, .int .i64 a0_1, .int .i64 a0_2, .slice A0_3 l0_3.length c0_3, .slice A0_4 l0_4.length c0_4, .slice A0_5 l0_5.length c0_5, .slice A0_6 l0_6.length c0_6, .int .i64 a0_7, .int .i64 a0_8, .int .i64 a0_9, .int .i64 a0_10, .int .i64 a0_11], .int .i64 a1] w fun e w' => e = .returned (.int .i64 3) ∧ Below w.heap.size w w' := by
 have hu := Try.underlying40
 have HB := Lib.hid (form_bel w (.cells #[.int .i64 a0_0, .int .i64 a0_1, .int .i64 a0_2, .slice A0_3 l0_3.length c0_3, .slice A0_4 l0_4.length c0_4, .slice A0_5 l0_5.length c0_5, .slice A0_6 l0_6.length c0_6, .int .i64 a0_7, .int .i64 a0_8, .int .i64 a0_9, .int .i64 a0_10, .int .i64 a0_11] 40 (0, 0)) (.cells #[.int .i64 a1] 3 (0, 0)))
 have H0 := Lib.hid HB
 have N0 := Lib.hid (form_node w (.cells #[.int .i64 a0_0, .int .i64 a0_1, .int .i64 a0_2, .slice A0_3 l0_3.length c0_3, .slice A0_4 l0_4.length c0_4, .slice A0_5 l0_5.length c0_5, .slice A0_6 l0_6.length c0_6, .int .i64 a0_7, .int .i64 a0_8, .int .i64 a0_9, .int .i64 a0_10, .int .i64 a0_11] 40 (0, 0)) (.cells #[.int .i64 a1] 3 (0, 0)))
 have A0 := Lib.hid (form_at w (.cells #[.int .i64 a0_0, .int .i64 a0_1, .int .i64 a0_2, .slice A0_3 l0_3.length c0_3, .slice A0_4 l0_4.length c0_4, .slice A0_5 l0_5.length c0_5, .slice A0_6 l0_6.length c0_6, .int .i64 a0_7, .int .i64 a0_8, .int .i64 a0_9, .int .i64 a0_10, .int .i64 a0_11] 40 (0, 0)) (.cells #[.int .i64 a1] 3 (0, 0)))
 have C24h := Lib.hid C24
 have C25h := Lib.hid C25
 have C26h := Lib.hid C26
 clear C24 C25 C26
 have C13h := Lib.hid C13
 have hrs := Lib.hid hrl
 have HR3 := Aside0.mk hr0_3
 have hmf : ∀ (fn : Fn) (first cap : Array Value) (w : World), (Instr.makeFunc fn first cap).run Try.prog w = .ok (.func fn first cap) w := fun _ _ _ _ => rfl
 clear C13 hrl hr0_3
 obtain ⟨m1, hm1⟩ : ∃ m : Int, (if (l0_3.length : Int) < (l0_4.length : Int) then (l0_4.length : Int) else (l0_3.length : Int)) = m := ⟨_, rfl⟩
 obtain ⟨m2, hm2⟩ : ∃ m : Int, (if m1 < (l0_5.length : Int) then (l0_5.length : Int) else m1) = m := ⟨_, rfl⟩
 have hm3 : (if l0_3.length < l0_4.length then (l0_4.length : Int) else (l0_3.length : Int)) = m1 := by rw [← hm1]; split <;> split <;> first | rfl | omega
 have b1 : decide (a0_0 < 1) = false := decide_eq_false (by omega)
 have b2 : decide (a0_0 > 9) = false := decide_eq_false (by omega)
 have b3 : decide (m2 > 8) = false := by
  refine decide_eq_false ?_
  have e1 : m1 ≤ 8 := by rw [← hm1]; split <;> omega
  have e2 : m2 ≤ 8 := by rw [← hm2]; split <;> omega
  omega
 have b4 : decide ((l0_6.length : Int) > 8) = false := decide_eq_false (by omega)
 have b5 : decide (8 < l0_6.length) = false := decide_eq_false (by omega)
 have hx := Lib.hid h3
 clear h1 h2 h3 h4 h5 h6
 go_enter Try.func18, Try.ntmps18
 go_wp2_with (first
  | (go_at_call 24; (with_reducible refine (C24h.out _ ?hb).mono ?_); (case hb => exact H0.out); rintro e w1 ⟨rfl, hb1⟩; have H1 := Lib.hid (join_below H0.out hb1 ⟨rfl, rfl, rfl, rfl⟩ (by first | exact H0.out.size | simp)); have N1 := Lib.hid (loop_cells hb1 (v := _) ⟨rfl, rfl, rfl, rfl⟩ N0.out); have A1 := Lib.hid (loop_cells hb1 ⟨rfl, rfl, rfl, rfl⟩ A0.out); have y1_0 : w1.cell? ⟨w.heap.size, 0, none⟩ = some (.int .i64 a0_0) := (blk_cell N1.out 0).trans rfl; have y1_1 : w1.cell? ⟨w.heap.size, 1, none⟩ = some (.int .i64 a0_1) := (blk_cell N1.out 1).trans rfl; have y1_2 : w1.cell? ⟨w.heap.size, 2, none⟩ = some (.int .i64 a0_2) := (blk_cell N1.out 2).trans rfl; have y1_3 : w1.cell? ⟨w.heap.size, 3, none⟩ = some (.slice A0_3 l0_3.length c0_3) := (blk_cell N1.out 3).trans rfl; have y1_4 : w1.cell? ⟨w.heap.size, 4, none⟩ = some (.slice A0_4 l0_4.length c0_4) := (blk_cell N1.out 4).trans rfl; have y1_5 : w1.cell? ⟨w.heap.size, 5, none⟩ = some (.slice A0_5 l0_5.length c0_5) := (blk_cell N1.out 5).trans rfl; have y1_6 : w1.cell? ⟨w.heap.size, 6, none⟩ = some (.slice A0_6 l0_6.length c0_6) := (blk_cell N1.out 6).trans rfl; have y1_7 : w1.cell? ⟨w.heap.size, 7, none⟩ = some (.int .i64 a0_7) := (blk_cell N1.out 7).trans rfl; have y1_8 : w1.cell? ⟨w.heap.size, 8, none⟩ = some (.int .i64 a0_8) := (blk_cell N1.out 8).trans rfl; have y1_9 : w1.cell? ⟨w.heap.size, 9, none⟩ = some (.int .i64 a0_9) := (blk_cell N1.out 9).trans rfl; have y1_10 : w1.cell? ⟨w.heap.size, 10, none⟩ = some (.int .i64 a0_10) := (blk_cell N1.out 10).trans rfl; have y1_11 : w1.cell? ⟨w.heap.size, 11, none⟩ = some (.int .i64 a0_11) := (blk_cell N1.out 11).trans rfl; clear hb1)
  | (go_at_call 25; (with_reducible refine (C25h.out _ ?hb).mono ?_); (case hb => exact H1.out); rintro e w2 ⟨rfl, hb2⟩; have H2 := Lib.hid (join_below H1.out hb2 ⟨rfl, rfl, rfl, rfl⟩ (by first | exact H1.out.size | simp)); have N2 := Lib.hid (loop_cells hb2 (v := _) ⟨rfl, rfl, rfl, rfl⟩ N1.out); have A2 := Lib.hid (loop_cells hb2 ⟨rfl, rfl, rfl, rfl⟩ A1.out); have y2_0 : w2.cell? ⟨w.heap.size, 0, none⟩ = some (.int .i64 a0_0) := (blk_cell N2.out 0).trans rfl; have y2_1 : w2.cell? ⟨w.heap.size, 1, none⟩ = some (.int .i64 a0_1) := (blk_cell N2.out 1).trans rfl; have y2_2 : w2.cell? ⟨w.heap.size, 2, none⟩ = some (.int .i64 a0_2) := (blk_cell N2.out 2).trans rfl; have y2_3 : w2.cell? ⟨w.heap.size, 3, none⟩ = some (.slice A0_3 l0_3.length c0_3) := (blk_cell N2.out 3).trans rfl; have y2_4 : w2.cell? ⟨w.heap.size, 4, none⟩ = some (.slice A0_4 l0_4.length c0_4) := (blk_cell N2.out 4).trans rfl; have y2_5 : w2.cell? ⟨w.heap.size, 5, none⟩ = some (.slice A0_5 l0_5.length c0_5) := (blk_cell N2.out 5).trans rfl; have y2_6 : w2.cell? ⟨w.heap.size, 6, none⟩ = some (.slice A0_6 l0_6.length c0_6) := (blk_cell N2.out 6).trans rfl; have y2_7 : w2.cell? ⟨w.heap.size, 7, none⟩ = some (.int .i64 a0_7) := (blk_cell N2.out 7).trans rfl; have y2_8 : w2.cell? ⟨w.heap.size, 8, none⟩ = some (.int .i64 a0_8) := (blk_cell N2.out 8).trans rfl; have y2_9 : w2.cell? ⟨w.heap.size, 9, none⟩ = some (.int .i64 a0_9) := (blk_cell N2.out 9).trans rfl; have y2_10 : w2.cell? ⟨w.heap.size, 10, none⟩ = some (.int .i64 a0_10) := (blk_cell N2.out 10).trans rfl; have y2_11 : w2.cell? ⟨w.heap.size, 11, none⟩ = some (.int .i64 a0_11) := (blk_cell N2.out 11).trans rfl; clear hb2)
  | (go_at_call 26; (with_reducible refine (C26h.out _ ?hb).mono ?_); (case hb => exact H2.out); rintro e w3 ⟨rfl, hb3⟩; have H3 := Lib.hid (join_below H2.out hb3 ⟨rfl, rfl, rfl, rfl⟩ (by first | exact H2.out.size | simp)); have N3 := Lib.hid (loop_cells hb3 (v := _) ⟨rfl, rfl, rfl, rfl⟩ N2.out); have A3 := Lib.hid (loop_cells hb3 ⟨rfl, rfl, rfl, rfl⟩ A2.out); have y3_0 : w3.cell? ⟨w.heap.size, 0, none⟩ = some (.int .i64 a0_0) := (blk_cell N3.out 0).trans rfl; have y3_1 : w3.cell? ⟨w.heap.size, 1, none⟩ = some (.int .i64 a0_1) := (blk_cell N3.out 1).trans rfl; have y3_2 : w3.cell? ⟨w.heap.size, 2, none⟩ = some (.int .i64 a0_2) := (blk_cell N3.out 2).trans rfl; have y3_3 : w3.cell? ⟨w.heap.size, 3, none⟩ = some (.slice A0_3 l0_3.length c0_3) := (blk_cell N3.out 3).trans rfl; have y3_4 : w3.cell? ⟨w.heap.size, 4, none⟩ = some (.slice A0_4 l0_4.length c0_4) := (blk_cell N3.out 4).trans rfl; have y3_5 : w3.cell? ⟨w.heap.size, 5, none⟩ = some (.slice A0_5 l0_5.length c0_5) := (blk_cell N3.out 5).trans rfl; have y3_6 : w3.cell? ⟨w.heap.size, 6, none⟩ = some (.slice A0_6 l0_6.length c0_6) := (blk_cell N3.out 6).trans rfl; have y3_7 : w3.cell? ⟨w.heap.size, 7, none⟩ = some (.int .i64 a0_7) := (blk_cell N3.out 7).trans rfl; have y3_8 : w3.cell? ⟨w.heap.size, 8, none⟩ = some (.int .i64 a0_8) := (blk_cell N3.out 8).trans rfl; have y3_9 : w3.cell? ⟨w.heap.size, 9, none⟩ = some (.int .i64 a0_9) := (blk_cell N3.out 9).trans rfl; have y3_10 : w3.cell? ⟨w.heap.size, 10, none⟩ = some (.int .i64 a0_10) := (blk_cell N3.out 10).trans rfl; have y3_11 : w3.cell? ⟨w.heap.size, 11, none⟩ = some (.int .i64 a0_11) := (blk_cell N3.out 11).trans rfl; clear hb3)
  | (go_at_call 13; (with_reducible refine (C13h.out _ ?hb).mono ?_); (case hb => exact H3.out); rintro e w4 ⟨v0_, rfl, hR, hb4⟩; have H4 := Lib.hid (join_below H3.out hb4 ⟨rfl, rfl, rfl, rfl⟩ H3.out.size); have N4 := Lib.hid (loop_cells hb4 ⟨rfl, rfl, rfl, rfl⟩ N3.out); have A4 := Lib.hid (loop_cells hb4 ⟨rfl, rfl, rfl, rfl⟩ A3.out); obtain ⟨RA, Rc, hRe⟩ := Kd.R_slice hR; subst hRe; have HR4 := Lib.hid (Kd.R_reads' hR).2.2; have g4 := Lib.hid (Array.getElem?_eq_some_iff.1 A4.out).1; clear hb4 hR)
  | (go_at_call 27; (with_reducible refine (has_intc a1 _ _ rs _ _ ?hg ?hc ?hr ?hl _ HBB.out).mono ?_); (case hg => exact g4.out); (case hc => exact (blk_cell A4.out 0).trans rfl); (case hr => exact HR4.out); (case hl => exact hrs.out); rintro e w5 ⟨rfl, hb5⟩; have H5 := Lib.hid (join_below H4.out hb5 ⟨rfl, rfl, rfl, rfl⟩ H4.out.size); have N5 := Lib.hid (loop_cells hb5 ⟨rfl, rfl, rfl, rfl⟩ N4.out); have y5_0 : w5.cell? ⟨w.heap.size, 0, none⟩ = some (.int .i64 a0_0) := (blk_cell N5.out 0).trans rfl; have y5_1 : w5.cell? ⟨w.heap.size, 1, none⟩ = some (.int .i64 a0_1) := (blk_cell N5.out 1).trans rfl; have y5_2 : w5.cell? ⟨w.heap.size, 2, none⟩ = some (.int .i64 a0_2) := (blk_cell N5.out 2).trans rfl; have y5_3 : w5.cell? ⟨w.heap.size, 3, none⟩ = some (.slice A0_3 l0_3.length c0_3) := (blk_cell N5.out 3).trans rfl; have y5_4 : w5.cell? ⟨w.heap.size, 4, none⟩ = some (.slice A0_4 l0_4.length c0_4) := (blk_cell N5.out 4).trans rfl; have y5_5 : w5.cell? ⟨w.heap.size, 5, none⟩ = some (.slice A0_5 l0_5.length c0_5) := (blk_cell N5.out 5).trans rfl; have y5_6 : w5.cell? ⟨w.heap.size, 6, none⟩ = some (.slice A0_6 l0_6.length c0_6) := (blk_cell N5.out 6).trans rfl; have y5_7 : w5.cell? ⟨w.heap.size, 7, none⟩ = some (.int .i64 a0_7) := (blk_cell N5.out 7).trans rfl; have y5_8 : w5.cell? ⟨w.heap.size, 8, none⟩ = some (.int .i64 a0_8) := (blk_cell N5.out 8).trans rfl; have y5_9 : w5.cell? ⟨w.heap.size, 9, none⟩ = some (.int .i64 a0_9) := (blk_cell N5.out 9).trans rfl; have y5_10 : w5.cell? ⟨w.heap.size, 10, none⟩ = some (.int .i64 a0_10) := (blk_cell N5.out 10).trans rfl; have y5_11 : w5.cell? ⟨w.heap.size, 11, none⟩ = some (.int .i64 a0_11) := (blk_cell N5.out 11).trans rfl; clear hb5))
 go_ret
 exact ⟨rfl, H5.out⟩
theorem form_rest (a0_0 : Int) (a0_1 : Int) (a0_2 : Int) (A0_3 : Option Addr) (c0_3 : Nat) (l0_3 : List (List (S79))) (A0_4 : Option Addr) (c0_4 : Nat) (l0_4 : List ByteArray) (A0_5 : Option Addr) (c0_5 : Nat) (l0_5 : List Int) (A0_6 : Option Addr) (c0_6 : Nat) (l0_6 : List (S43)) (a0_7 : Int) (a0_8 : Int) (a0_9 : Int) (a0_10 : Int) (a0_11 : Int) (rs : List Int) (a1 : Int) (w : World) (h1 : 1 ≤ a0_0) (h2 : a0_0 ≤ 9) (h3 : l0_3.length ≤ 8) (h4 : l0_4.length ≤ 8) (h5 : l0_5.length ≤ 8) (h6 : l0_6.length ≤ 8) (hr0_3 : Kd.C (Kd.slice 79 k79) w A0_3 l0_3.length l0_3) (C24 : ∀ W, Below w.heap.size w W → Calls Try.prog 24 #[.agg #[.int .i64 a0_0, .int .i64 a0_1, .int .i64 a0_2, .slice A0_3 l0_3.length c0_3, .slice A0_4 l0_4.length c0_4, .slice A0_5 l0_5.length c0_5, .slice A0_6 l0_6.length c0_6, .int .i64 a0_7, .int .i64 a0_8, .int .i64 a0_9, .int .i64 a0_10, .int .i64 a0_11]] W fun e w' => e = .returned (.bool false) ∧ Below W.heap.size W w') (C25 : ∀ W, Below w.heap.size w W → Calls Try.prog 25 #[.agg #[.int .i64 a0_0, .int .i64 a0_1, .int .i64 a0_2, .slice A0_3 l0_3.length c0_3, .slice A0_4 l0_4.length c0_4, .slice A0_5 l0_5.length c0_5, .slice A0_6 l0_6.length c0_6, .int .i64 a0_7, .int .i64 a0_8, .int .i64 a0_9, .int .i64 a0_10, .int .i64 a0_11]] W fun e w' => e = .returned (.bool true) ∧ Below W.heap.size W w') (C26 : ∀ W, Below w.heap.size w W → Calls Try.prog 26 #[.agg #[.int .i64 a0_0, .int .i64 a0_1, .int .i64 a0_2, .slice A0_3 l0_3.length c0_3, .slice A0_4 l0_4.length c0_4, .slice A0_5 l0_5.length c0_5, .slice A0_6 l0_6.length c0_6, .int .i64 a0_7, .int .i64 a0_8, .int .i64 a0_9, .int .i64 a0_10, .int .i64 a0_11]] W fun e w' => e = .returned (.bool true) ∧ Below W.heap.size W w') (hs : ¬ (a0_0 = 1 ∧ (a0_1 < 0 ∨ a0_1 ≥ 8))) (C13 : ∀ W, Below w.heap.size w W → Calls Try.prog 13 #[.agg #[.int .i64 a0_0, .int .i64 a0_1, .int .i64 a0_2, .slice A0_3 l0_3.length c0_3, .slice A0_4 l0_4.length c0_4, .slice A0_5 l0_5.length c0_5, .slice A0_6 l0_6.length c0_6, .int .i64 a0_7, .int .i64 a0_8, .int .i64 a0_9, .int .i64 a0_10, .int .i64 a0_11]] W fun e w' => ∃ v0_ : Value, e = .returned v0_ ∧ Kd.R (Kd.int .i64) 3 w' W.heap.size (fun _ => True) v0_ rs ∧ Below W.heap.size W w') (hrl : rs.length ≤ 1000) :
  Calls Try.prog 18 #[.agg #[.int .i64 a0_0, .int .i64 a0_1, .int .i64 a0_2, .slice A0_3 l0_3.length c0_3, .slice A0_4 l0_4.length c0_4, .slice A0_5 l0_5.length c0_5, .slice A0_6 l0_6.length c0_6, .int .i64 a0_7, .int .i64 a0_8, .int .i64 a0_9, .int .i64 a0_10, .int .i64 a0_11], .int .i64 a1] w fun e w' => e = .returned (.int .i64 (if (rs.any fun i => decide (i < 0) || decide (i ≥ a1)) = true then 3 else exprsV l0_3)) ∧ Below w.heap.size w w' := by
 have hsrc : (a0_0 == 1) = false ∨ ((a0_0 == 1) = true ∧ decide (a0_1 < 0) = false ∧ decide (a0_1 ≥ 8) = false) := by
  by_cases e : a0_0 = 1
  ·exact .inr ⟨by simp [e], decide_eq_false (fun h => hs ⟨e, .inl h⟩), decide_eq_false (fun h => hs ⟨e, .inr h⟩)⟩
  ·exact .inl (by simp [e])
 by_cases hb : (rs.any fun i => decide (i < 0) || decide (i ≥ a1)) = true
 ·rw [if_pos hb]
  rcases hsrc with b6 | ⟨b6, b7, b8⟩
  ·exact form_r10 a0_0 a0_1 a0_2 A0_3 c0_3 l0_3 A0_4 c0_4 l0_4 A0_5 c0_5 l0_5 A0_6 c0_6 l0_6 a0_7 a0_8 a0_9 a0_10 a0_11 rs a1 w h1 h2 h3 h4 h5 h6 hr0_3 C24 C25 C26 b6 C13 hrl (Lib.hid hb)
  ·exact form_r11 a0_0 a0_1 a0_2 A0_3 c0_3 l0_3 A0_4 c0_4 l0_4 A0_5 c0_5 l0_5 A0_6 c0_6 l0_6 a0_7 a0_8 a0_9 a0_10 a0_11 rs a1 w h1 h2 h3 h4 h5 h6 hr0_3 C24 C25 C26 b6 b7 b8 C13 hrl (Lib.hid hb)
 ·rw [if_neg hb]
  rw [Bool.not_eq_true] at hb
  rcases hsrc with b6 | ⟨b6, b7, b8⟩
  ·exact form_r00 a0_0 a0_1 a0_2 A0_3 c0_3 l0_3 A0_4 c0_4 l0_4 A0_5 c0_5 l0_5 A0_6 c0_6 l0_6 a0_7 a0_8 a0_9 a0_10 a0_11 rs a1 w h1 h2 h3 h4 h5 h6 hr0_3 C24 C25 C26 b6 C13 hrl (Lib.hid hb)
  ·exact form_r01 a0_0 a0_1 a0_2 A0_3 c0_3 l0_3 A0_4 c0_4 l0_4 A0_5 c0_5 l0_5 A0_6 c0_6 l0_6 a0_7 a0_8 a0_9 a0_10 a0_11 rs a1 w h1 h2 h3 h4 h5 h6 hr0_3 C24 C25 C26 b6 b7 b8 C13 hrl (Lib.hid hb)
end Go.Proofs.Ytpidiibhgfjemaa.PLh
end
section
namespace Go.Proofs.Ytpidiibhgfjemaa.PLh
open Go.Proofs.Ytpidiibhgfjemaa.PLg
open Go.RowKit Go.Proofs.YtpidiibhgfjemaaW.PrintWords Go.Proofs.YtpidiibhgfjemaaW.PrintLast Go.Proofs.YtpidiibhgfjemaaW.PrintMore
open Go.Proofs.Ytpidiibhgfjemaa.PLo
set_option linter.unusedVariables false
def fieldsT (a0_0 : Int) : Bool × Bool × Bool × Bool × Bool × Bool × Bool × Bool := (plan_fields.f 1 a0_0).getD (false, false, false, false, false, false, false, false)
theorem fieldsT_f (a0_0 : Int) : plan_fields.f 1 a0_0 = some (fieldsT a0_0) := by
 have : ∃ v, plan_fields.f 1 a0_0 = some v := by
  simp only [plan_fields.f, plan_fields.j0]
  repeat' first | exact ⟨_, rfl⟩ | split
 obtain ⟨v, hv⟩ := this
 unfold fieldsT
 rw [hv]; rfl
def specB (a0_0 : Int) (a0_1 : Int) (a0_2 : Int) (l0_3 : List (List (S79))) (l0_4 : List ByteArray) (l0_5 : List Int) (l0_6 : List (S43)) (a0_7 : Int) (a0_8 : Int) (a0_9 : Int) (a0_10 : Int) (a0_11 : Int) : Bool := spareB [(a0_2 != 0), (decide (0 < l0_3.length)), (decide (0 < l0_4.length)), (decide (0 < l0_5.length)), (decide (0 < l0_6.length)), (!a0_7 == 0 || (!a0_8 == 0 || !a0_9 == 0)), (a0_10 != 0), (a0_11 != 0)] [(fieldsT a0_0).1, (fieldsT a0_0).2.1, (fieldsT a0_0).2.2.1, (fieldsT a0_0).2.2.2.1, (fieldsT a0_0).2.2.2.2.1, (fieldsT a0_0).2.2.2.2.2.1, (fieldsT a0_0).2.2.2.2.2.2.1, (fieldsT a0_0).2.2.2.2.2.2.2]
theorem spare_calls (a0_0 : Int) (a0_1 : Int) (a0_2 : Int) (A0_3 : Option Addr) (c0_3 : Nat) (l0_3 : List (List (S79))) (A0_4 : Option Addr) (c0_4 : Nat) (l0_4 : List ByteArray) (A0_5 : Option Addr) (c0_5 : Nat) (l0_5 : List Int) (A0_6 : Option Addr) (c0_6 : Nat) (l0_6 : List (S43)) (a0_7 : Int) (a0_8 : Int) (a0_9 : Int) (a0_10 : Int) (a0_11 : Int) (w : World) (hr0_3 : Kd.C (Kd.slice 79 k79) w A0_3 l0_3.length l0_3) (hc0_3 : l0_3.length ≤ c0_3) (hr0_4 : Kd.C Kd.string w A0_4 l0_4.length l0_4) (hc0_4 : l0_4.length ≤ c0_4) (hr0_5 : Kd.C (Kd.int .i64) w A0_5 l0_5.length l0_5) (hc0_5 : l0_5.length ≤ c0_5) (hr0_6 : Kd.C k43 w A0_6 l0_6.length l0_6) (hc0_6 : l0_6.length ≤ c0_6) :
  Calls Try.prog 24 #[.agg #[.int .i64 a0_0, .int .i64 a0_1, .int .i64 a0_2, .slice A0_3 l0_3.length c0_3, .slice A0_4 l0_4.length c0_4, .slice A0_5 l0_5.length c0_5, .slice A0_6 l0_6.length c0_6, .int .i64 a0_7, .int .i64 a0_8, .int .i64 a0_9, .int .i64 a0_10, .int .i64 a0_11]] w fun e w' => e = .returned (.bool (specB a0_0 a0_1 a0_2 l0_3 l0_4 l0_5 l0_6 a0_7 a0_8 a0_9 a0_10 a0_11)) ∧ Below w.heap.size w w' :=
 spare_walk 1 a0_0 a0_1 a0_2 A0_3 c0_3 l0_3 A0_4 c0_4 l0_4 A0_5 c0_5 l0_5 A0_6 c0_6 l0_6 a0_7 a0_8 a0_9 a0_10 a0_11 _ _ _ _ _ _ _ _ w hr0_3 hc0_3 hr0_4 hc0_4 hr0_5 hc0_5 hr0_6 hc0_6 (fieldsT_f a0_0)
def ownB (a0_0 : Int) (a0_1 : Int) (a0_2 : Int) (l0_3 : List (List (S79))) (l0_4 : List ByteArray) (l0_5 : List Int) (l0_6 : List (S43)) (a0_7 : Int) (a0_8 : Int) (a0_9 : Int) (a0_10 : Int) (a0_11 : Int) : Bool := (plan_own.f 1 a0_0 a0_1 a0_2 l0_3 l0_4 l0_5 l0_6 a0_7 a0_8 a0_9 a0_10 a0_11).getD false
set_option maxHeartbeats 2000000 in
theorem own_j0 (x4 : Int) (x5 : Bool) (y0 y1 y2 : Int) (y3 : List (List S79)) (y4 : List ByteArray) (y5 : List Int) (y6 : List S43) (y7 y8 y9 y10 y11 : Int) : ∃ v, plan_own.j0 1 x4 x5 y0 y1 y2 y3 y4 y5 y6 y7 y8 y9 y10 y11 = some v := by
 rw [show (1 : Nat) = 0 + 1 from rfl, plan_own.j0]
 simp only [window_Check.f, colB_f, Option.bind_some]
 repeat' first | exact ⟨_, rfl⟩ | split
theorem ownB_f (a0_0 : Int) (a0_1 : Int) (a0_2 : Int) (l0_3 : List (List (S79))) (l0_4 : List ByteArray) (l0_5 : List Int) (l0_6 : List (S43)) (a0_7 : Int) (a0_8 : Int) (a0_9 : Int) (a0_10 : Int) (a0_11 : Int) : plan_own.f 1 a0_0 a0_1 a0_2 l0_3 l0_4 l0_5 l0_6 a0_7 a0_8 a0_9 a0_10 a0_11 = some (ownB a0_0 a0_1 a0_2 l0_3 l0_4 l0_5 l0_6 a0_7 a0_8 a0_9 a0_10 a0_11) := by
 have : ∃ v, plan_own.f 1 a0_0 a0_1 a0_2 l0_3 l0_4 l0_5 l0_6 a0_7 a0_8 a0_9 a0_10 a0_11 = some v := by
  unfold plan_own.f
  repeat' first | exact own_j0 _ _ _ _ _ _ _ _ _ _ _ _ _ _ | split
 obtain ⟨v, hv⟩ := this
 unfold ownB
 rw [hv]; rfl
theorem own_calls (a0_0 : Int) (a0_1 : Int) (a0_2 : Int) (A0_3 : Option Addr) (c0_3 : Nat) (l0_3 : List (List (S79))) (A0_4 : Option Addr) (c0_4 : Nat) (l0_4 : List ByteArray) (A0_5 : Option Addr) (c0_5 : Nat) (l0_5 : List Int) (A0_6 : Option Addr) (c0_6 : Nat) (l0_6 : List (S43)) (a0_7 : Int) (a0_8 : Int) (a0_9 : Int) (a0_10 : Int) (a0_11 : Int) (w : World) (hr0_3 : Kd.C (Kd.slice 79 k79) w A0_3 l0_3.length l0_3) (hc0_3 : l0_3.length ≤ c0_3) (hr0_4 : Kd.C Kd.string w A0_4 l0_4.length l0_4) (hc0_4 : l0_4.length ≤ c0_4) (hr0_5 : Kd.C (Kd.int .i64) w A0_5 l0_5.length l0_5) (hc0_5 : l0_5.length ≤ c0_5) (hr0_6 : Kd.C k43 w A0_6 l0_6.length l0_6) (hc0_6 : l0_6.length ≤ c0_6) :
  Calls Try.prog 25 #[.agg #[.int .i64 a0_0, .int .i64 a0_1, .int .i64 a0_2, .slice A0_3 l0_3.length c0_3, .slice A0_4 l0_4.length c0_4, .slice A0_5 l0_5.length c0_5, .slice A0_6 l0_6.length c0_6, .int .i64 a0_7, .int .i64 a0_8, .int .i64 a0_9, .int .i64 a0_10, .int .i64 a0_11]] w fun e w' => e = .returned (.bool (ownB a0_0 a0_1 a0_2 l0_3 l0_4 l0_5 l0_6 a0_7 a0_8 a0_9 a0_10 a0_11)) ∧ Below w.heap.size w w' :=
 plan_own.calls 1 a0_0 a0_1 a0_2 A0_3 c0_3 l0_3 A0_4 c0_4 l0_4 A0_5 c0_5 l0_5 A0_6 c0_6 l0_6 a0_7 a0_8 a0_9 a0_10 a0_11 _ w hr0_3 hc0_3 hr0_4 hc0_4 hr0_5 hc0_5 hr0_6 hc0_6 (ownB_f a0_0 a0_1 a0_2 l0_3 l0_4 l0_5 l0_6 a0_7 a0_8 a0_9 a0_10 a0_11)
def readsT (a0_0 a0_1 a0_2 : Int) : List Int := if a0_0 = 1 then [] else if (fieldsT a0_0).1 = true then [a0_1, a0_2] else [a0_1]
theorem readsT_f (a0_0 : Int) (a0_1 : Int) (a0_2 : Int) (l0_3 : List (List (S79))) (l0_4 : List ByteArray) (l0_5 : List Int) (l0_6 : List (S43)) (a0_7 : Int) (a0_8 : Int) (a0_9 : Int) (a0_10 : Int) (a0_11 : Int) : plan_Reads.f 1 a0_0 a0_1 a0_2 l0_3 l0_4 l0_5 l0_6 a0_7 a0_8 a0_9 a0_10 a0_11 = some (readsT a0_0 a0_1 a0_2) := by
 unfold plan_Reads.f readsT
 rw [fieldsT_f, Option.bind_some]
 repeat' first | rfl | split
theorem readsT_len (a0_0 a0_1 a0_2 : Int) : (readsT a0_0 a0_1 a0_2).length ≤ 2 := by
 unfold readsT
 repeat' first | (simp; done) | split
theorem reads_calls (a0_0 : Int) (a0_1 : Int) (a0_2 : Int) (A0_3 : Option Addr) (c0_3 : Nat) (l0_3 : List (List (S79))) (A0_4 : Option Addr) (c0_4 : Nat) (l0_4 : List ByteArray) (A0_5 : Option Addr) (c0_5 : Nat) (l0_5 : List Int) (A0_6 : Option Addr) (c0_6 : Nat) (l0_6 : List (S43)) (a0_7 : Int) (a0_8 : Int) (a0_9 : Int) (a0_10 : Int) (a0_11 : Int) (w : World) (hr0_3 : Kd.C (Kd.slice 79 k79) w A0_3 l0_3.length l0_3) (hc0_3 : l0_3.length ≤ c0_3) (hr0_4 : Kd.C Kd.string w A0_4 l0_4.length l0_4) (hc0_4 : l0_4.length ≤ c0_4) (hr0_5 : Kd.C (Kd.int .i64) w A0_5 l0_5.length l0_5) (hc0_5 : l0_5.length ≤ c0_5) (hr0_6 : Kd.C k43 w A0_6 l0_6.length l0_6) (hc0_6 : l0_6.length ≤ c0_6) :
  Calls Try.prog 13 #[.agg #[.int .i64 a0_0, .int .i64 a0_1, .int .i64 a0_2, .slice A0_3 l0_3.length c0_3, .slice A0_4 l0_4.length c0_4, .slice A0_5 l0_5.length c0_5, .slice A0_6 l0_6.length c0_6, .int .i64 a0_7, .int .i64 a0_8, .int .i64 a0_9, .int .i64 a0_10, .int .i64 a0_11]] w fun e w' => ∃ v0_ : Value, e = .returned v0_ ∧ Kd.R (Kd.int .i64) 3 w' w.heap.size (fun _ => True) v0_ (readsT a0_0 a0_1 a0_2) ∧ Below w.heap.size w w' :=
 plan_Reads.calls 1 a0_0 a0_1 a0_2 A0_3 c0_3 l0_3 A0_4 c0_4 l0_4 A0_5 c0_5 l0_5 A0_6 c0_6 l0_6 a0_7 a0_8 a0_9 a0_10 a0_11 _ w hr0_3 hc0_3 hr0_4 hc0_4 hr0_5 hc0_5 hr0_6 hc0_6 (readsT_f a0_0 a0_1 a0_2 l0_3 l0_4 l0_5 l0_6 a0_7 a0_8 a0_9 a0_10 a0_11)
def okB (a0_0 : Int) (a0_1 : Int) (a0_2 : Int) (l0_3 : List (List (S79))) (l0_4 : List ByteArray) (l0_5 : List Int) (l0_6 : List (S43)) (a0_7 : Int) (a0_8 : Int) (a0_9 : Int) (a0_10 : Int) (a0_11 : Int) : Bool := !(specB a0_0 a0_1 a0_2 l0_3 l0_4 l0_5 l0_6 a0_7 a0_8 a0_9 a0_10 a0_11) && (ownB a0_0 a0_1 a0_2 l0_3 l0_4 l0_5 l0_6 a0_7 a0_8 a0_9 a0_10 a0_11 && listsB l0_4 l0_5 l0_6)
def formN (a0_0 : Int) (a0_1 : Int) (a0_2 : Int) (l0_3 : List (List (S79))) (l0_4 : List ByteArray) (l0_5 : List Int) (l0_6 : List (S43)) (a0_7 : Int) (a0_8 : Int) (a0_9 : Int) (a0_10 : Int) (a0_11 : Int) (a1 : Int) : Int :=
 if a0_0 < 1 ∨ a0_0 > 9 then 12
 else if 8 < l0_3.length ∨ 8 < l0_4.length ∨ 8 < l0_5.length ∨ 8 < l0_6.length then 6
 else if okB a0_0 a0_1 a0_2 l0_3 l0_4 l0_5 l0_6 a0_7 a0_8 a0_9 a0_10 a0_11 = false then 2
 else if a0_0 = 1 ∧ (a0_1 < 0 ∨ a0_1 ≥ 8) then 3
 else if ((readsT a0_0 a0_1 a0_2).any fun i => decide (i < 0) || decide (i ≥ a1)) = true then 3 else exprsV l0_3
theorem form_calls (a0_0 : Int) (a0_1 : Int) (a0_2 : Int) (A0_3 : Option Addr) (c0_3 : Nat) (l0_3 : List (List (S79))) (A0_4 : Option Addr) (c0_4 : Nat) (l0_4 : List ByteArray) (A0_5 : Option Addr) (c0_5 : Nat) (l0_5 : List Int) (A0_6 : Option Addr) (c0_6 : Nat) (l0_6 : List (S43)) (a0_7 : Int) (a0_8 : Int) (a0_9 : Int) (a0_10 : Int) (a0_11 : Int) (a1 : Int) (w : World) (hr0_3 : Kd.C (Kd.slice 79 k79) w A0_3 l0_3.length l0_3) (hc0_3 : l0_3.length ≤ c0_3) (hr0_4 : Kd.C Kd.string w A0_4 l0_4.length l0_4) (hc0_4 : l0_4.length ≤ c0_4) (hr0_5 : Kd.C (Kd.int .i64) w A0_5 l0_5.length l0_5) (hc0_5 : l0_5.length ≤ c0_5) (hr0_6 : Kd.C k43 w A0_6 l0_6.length l0_6) (hc0_6 : l0_6.length ≤ c0_6) :
  Calls Try.prog 18 #[.agg #[.int .i64 a0_0, .int .i64 a0_1, .int .i64 a0_2, .slice A0_3 l0_3.length c0_3, .slice A0_4 l0_4.length c0_4, .slice A0_5 l0_5.length c0_5, .slice A0_6 l0_6.length c0_6, .int .i64 a0_7, .int .i64 a0_8, .int .i64 a0_9, .int .i64 a0_10, .int .i64 a0_11], .int .i64 a1] w fun e w' => e = .returned (.int .i64 (formN a0_0 a0_1 a0_2 l0_3 l0_4 l0_5 l0_6 a0_7 a0_8 a0_9 a0_10 a0_11 a1)) ∧ Below w.heap.size w w' := by
 unfold formN
 by_cases h1 : a0_0 < 1 ∨ a0_0 > 9
 ·rw [if_pos h1]
  rcases h1 with h1 | h1
  ·exact form_low a0_0 a0_1 a0_2 A0_3 c0_3 l0_3 A0_4 c0_4 l0_4 A0_5 c0_5 l0_5 A0_6 c0_6 l0_6 a0_7 a0_8 a0_9 a0_10 a0_11 a1 w h1
  ·exact form_high a0_0 a0_1 a0_2 A0_3 c0_3 l0_3 A0_4 c0_4 l0_4 A0_5 c0_5 l0_5 A0_6 c0_6 l0_6 a0_7 a0_8 a0_9 a0_10 a0_11 a1 w h1
 rw [if_neg h1]
 have k1 : 1 ≤ a0_0 := by omega
 have k2 : a0_0 ≤ 9 := by omega
 by_cases h2 : 8 < l0_3.length ∨ 8 < l0_4.length ∨ 8 < l0_5.length ∨ 8 < l0_6.length
 ·rw [if_pos h2]
  by_cases h3 : 8 < max (max l0_3.length l0_4.length) l0_5.length
  ·exact form_long a0_0 a0_1 a0_2 A0_3 c0_3 l0_3 A0_4 c0_4 l0_4 A0_5 c0_5 l0_5 A0_6 c0_6 l0_6 a0_7 a0_8 a0_9 a0_10 a0_11 a1 w k1 k2 h3
  ·exact form_aggs a0_0 a0_1 a0_2 A0_3 c0_3 l0_3 A0_4 c0_4 l0_4 A0_5 c0_5 l0_5 A0_6 c0_6 l0_6 a0_7 a0_8 a0_9 a0_10 a0_11 a1 w k1 k2 (by omega) (by omega) (by omega) (by omega)
 rw [if_neg h2]
 have C24 := fun (W : World) (hb : Below w.heap.size w W) => spare_calls a0_0 a0_1 a0_2 A0_3 c0_3 l0_3 A0_4 c0_4 l0_4 A0_5 c0_5 l0_5 A0_6 c0_6 l0_6 a0_7 a0_8 a0_9 a0_10 a0_11 W (Kd.C_below hr0_3 hb) hc0_3 (Kd.C_below hr0_4 hb) hc0_4 (Kd.C_below hr0_5 hb) hc0_5 (Kd.C_below hr0_6 hb) hc0_6
 have C25 := fun (W : World) (hb : Below w.heap.size w W) => own_calls a0_0 a0_1 a0_2 A0_3 c0_3 l0_3 A0_4 c0_4 l0_4 A0_5 c0_5 l0_5 A0_6 c0_6 l0_6 a0_7 a0_8 a0_9 a0_10 a0_11 W (Kd.C_below hr0_3 hb) hc0_3 (Kd.C_below hr0_4 hb) hc0_4 (Kd.C_below hr0_5 hb) hc0_5 (Kd.C_below hr0_6 hb) hc0_6
 have C26 := fun (W : World) (hb : Below w.heap.size w W) => plan_lists.calls a0_0 a0_1 a0_2 A0_3 c0_3 l0_3 A0_4 c0_4 l0_4 A0_5 c0_5 l0_5 A0_6 c0_6 l0_6 a0_7 a0_8 a0_9 a0_10 a0_11 _ W (Kd.C_below hr0_3 hb) hc0_3 (Kd.C_below hr0_4 hb) hc0_4 (Kd.C_below hr0_5 hb) hc0_5 (Kd.C_below hr0_6 hb) hc0_6 (if_pos ⟨by omega, by omega, by omega⟩)
 have C13 := fun (W : World) (hb : Below w.heap.size w W) => reads_calls a0_0 a0_1 a0_2 A0_3 c0_3 l0_3 A0_4 c0_4 l0_4 A0_5 c0_5 l0_5 A0_6 c0_6 l0_6 a0_7 a0_8 a0_9 a0_10 a0_11 W (Kd.C_below hr0_3 hb) hc0_3 (Kd.C_below hr0_4 hb) hc0_4 (Kd.C_below hr0_5 hb) hc0_5 (Kd.C_below hr0_6 hb) hc0_6
 unfold okB
 generalize specB a0_0 a0_1 a0_2 l0_3 l0_4 l0_5 l0_6 a0_7 a0_8 a0_9 a0_10 a0_11 = s at C24 ⊢
 generalize ownB a0_0 a0_1 a0_2 l0_3 l0_4 l0_5 l0_6 a0_7 a0_8 a0_9 a0_10 a0_11 = o at C25 ⊢
 generalize listsB l0_4 l0_5 l0_6 = l at C26 ⊢
 by_cases h3 : (!s && (o && l)) = false
 ·rw [if_pos h3]
  exact form_bad a0_0 a0_1 a0_2 A0_3 c0_3 l0_3 A0_4 c0_4 l0_4 A0_5 c0_5 l0_5 A0_6 c0_6 l0_6 a0_7 a0_8 a0_9 a0_10 a0_11 a1 w k1 k2 (by omega) (by omega) (by omega) (by omega) s o l C24 C25 C26 (by cases s <;> cases o <;> cases l <;> simp_all)
 rw [if_neg h3]
 have h3' : s = false ∧ o = true ∧ l = true := by cases s <;> cases o <;> cases l <;> simp_all
 obtain ⟨rfl, rfl, rfl⟩ := h3'
 by_cases h4 : a0_0 = 1 ∧ (a0_1 < 0 ∨ a0_1 ≥ 8)
 ·rw [if_pos h4]
  exact form_src a0_0 a0_1 a0_2 A0_3 c0_3 l0_3 A0_4 c0_4 l0_4 A0_5 c0_5 l0_5 A0_6 c0_6 l0_6 a0_7 a0_8 a0_9 a0_10 a0_11 a1 w k1 k2 (by omega) (by omega) (by omega) (by omega) C24 C25 C26 h4.1 h4.2
 rw [if_neg h4]
 exact form_rest a0_0 a0_1 a0_2 A0_3 c0_3 l0_3 A0_4 c0_4 l0_4 A0_5 c0_5 l0_5 A0_6 c0_6 l0_6 a0_7 a0_8 a0_9 a0_10 a0_11 (readsT a0_0 a0_1 a0_2) a1 w k1 k2 (by omega) (by omega) (by omega) (by omega) hr0_3 C24 C25 C26 h4 C13 (by have := readsT_len a0_0 a0_1 a0_2; omega)
end Go.Proofs.Ytpidiibhgfjemaa.PLh
end
section
namespace Go.Proofs.Ytpidiibhgfjemaa.PLh
open Go.Proofs.Ytpidiibhgfjemaa.PLg
open Go.RowKit Go.Proofs.YtpidiibhgfjemaaW.PrintWords Go.Proofs.YtpidiibhgfjemaaW.PrintLast Go.Proofs.YtpidiibhgfjemaaW.PrintMore
set_option linter.unusedVariables false
def rcolB (c : Int) : Bool := decide (c ≥ 0) && decide (c ≤ 7)
theorem rcol_eq (c : Int) : rcolB c = colB c := by
 unfold rcolB colB
 by_cases h : c ≤ 7
 ·rw [decide_eq_true h, decide_eq_true (show c < 8 by omega)]
 ·rw [decide_eq_false h, decide_eq_false (show ¬ c < 8 by omega)]
def rmayB (a b c : Int) : Bool := (rescindref30_May.f a b c).getD false
theorem rmayB_f (a b c : Int) : rescindref30_May.f a b c = some (rmayB a b c) := by
 have : ∃ v, rescindref30_May.f a b c = some v := by
  unfold rescindref30_May.f rescindref28_May.f
  repeat' first | exact ⟨_, rfl⟩ | split
 obtain ⟨v, hv⟩ := this
 unfold rmayB
 rw [hv]; rfl
def raggB (x : S43) : Bool := !(decide (x.f0 < 1) || decide (x.f0 > 7) || !rcolB x.f1 || !EvP.nameB x.f2)
theorem ragg_eq (x : S43) : raggB x = aggB x := by
 unfold raggB aggB
 rw [rcol_eq]
 by_cases h : x.f0 < 1
 ·rw [decide_eq_true h, decide_eq_false (show ¬ x.f0 ≥ 1 by omega)]; simp
 ·rw [decide_eq_false h, decide_eq_true (show x.f0 ≥ 1 by omega)]
  by_cases k : x.f0 > 7
  ·rw [decide_eq_true k, decide_eq_false (show ¬ x.f0 ≤ 7 by omega)]; simp
  ·rw [decide_eq_false k, decide_eq_true (show x.f0 ≤ 7 by omega)]; simp
def listsR (l4 : List ByteArray) (l5 : List Int) (l6 : List S43) : Bool := l4.all EvP.nameB && (l5.all rcolB && l6.all raggB)
theorem listsR_eq (l4 : List ByteArray) (l5 : List Int) (l6 : List S43) : listsR l4 l5 l6 = listsB l4 l5 l6 := by
 unfold listsR listsB
 rw [show rcolB = colB from funext rcol_eq, show raggB = aggB from funext ragg_eq]
 simp [List.all_eq_not_any_not, Bool.and_assoc]
end Go.Proofs.Ytpidiibhgfjemaa.PLh
end
section
namespace Go.Proofs.Ytpidiibhgfjemaa.PLh
open Go.Proofs.Ytpidiibhgfjemaa.PLg
open Go.RowKit Go.Proofs.YtpidiibhgfjemaaW.PrintWords Go.Proofs.YtpidiibhgfjemaaW.PrintLast Go.Proofs.YtpidiibhgfjemaaW.PrintMore
set_option linter.unusedVariables false
set_option linter.unusedSimpArgs false
attribute [local go_sem high] eqA34
end Go.Proofs.Ytpidiibhgfjemaa.PLh
end
section
namespace Go.Proofs.Ytpidiibhgfjemaa.PLh
open Go.Proofs.Ytpidiibhgfjemaa.PLg
open Go.RowKit Go.Proofs.YtpidiibhgfjemaaW.PrintWords Go.Proofs.YtpidiibhgfjemaaW.PrintLast Go.Proofs.YtpidiibhgfjemaaW.PrintMore
set_option linter.unusedVariables false
set_option linter.unusedSimpArgs false
attribute [local go_sem high] eqA34
end Go.Proofs.Ytpidiibhgfjemaa.PLh
end
section
namespace Go.Proofs.Ytpidiibhgfjemaa.PLh
open Go.Proofs.Ytpidiibhgfjemaa.PLg
open Go.RowKit Go.Proofs.YtpidiibhgfjemaaW.PrintWords Go.Proofs.YtpidiibhgfjemaaW.PrintLast Go.Proofs.YtpidiibhgfjemaaW.PrintMore
set_option linter.unusedVariables false
set_option linter.unusedSimpArgs false
attribute [local go_sem high] eqA34
end Go.Proofs.Ytpidiibhgfjemaa.PLh
end
section
namespace Go.Proofs.Ytpidiibhgfjemaa.PLh
open Go.Proofs.Ytpidiibhgfjemaa.PLg
open Go.RowKit Go.Proofs.YtpidiibhgfjemaaW.PrintWords Go.Proofs.YtpidiibhgfjemaaW.PrintLast Go.Proofs.YtpidiibhgfjemaaW.PrintMore
set_option linter.unusedVariables false
set_option linter.unusedSimpArgs false
attribute [local go_sem high] eqA34
end Go.Proofs.Ytpidiibhgfjemaa.PLh
end
section
namespace Go.Proofs.Ytpidiibhgfjemaa.PLh
open Go.Proofs.Ytpidiibhgfjemaa.PLg
open Go.RowKit Go.Proofs.YtpidiibhgfjemaaW.PrintWords Go.Proofs.YtpidiibhgfjemaaW.PrintLast Go.Proofs.YtpidiibhgfjemaaW.PrintMore
set_option linter.unusedVariables false
set_option linter.unusedSimpArgs false
attribute [local go_sem high] eqA34
end Go.Proofs.Ytpidiibhgfjemaa.PLh
end
section
namespace Go.Proofs.Ytpidiibhgfjemaa.PLh
open Go.Proofs.Ytpidiibhgfjemaa.PLg
open Go.RowKit Go.Proofs.YtpidiibhgfjemaaW.PrintWords Go.Proofs.YtpidiibhgfjemaaW.PrintLast Go.Proofs.YtpidiibhgfjemaaW.PrintMore
set_option linter.unusedVariables false
set_option linter.unusedSimpArgs false
attribute [local go_sem high] eqA34
end Go.Proofs.Ytpidiibhgfjemaa.PLh
end
section
namespace Go.Proofs.Ytpidiibhgfjemaa.PLh
open Go.Proofs.Ytpidiibhgfjemaa.PLg
open Go.RowKit Go.Proofs.YtpidiibhgfjemaaW.PrintWords Go.Proofs.YtpidiibhgfjemaaW.PrintLast Go.Proofs.YtpidiibhgfjemaaW.PrintMore
set_option linter.unusedVariables false
set_option linter.unusedSimpArgs false
attribute [local go_sem high] eqA34
end Go.Proofs.Ytpidiibhgfjemaa.PLh
end
section
namespace Go.Proofs.Ytpidiibhgfjemaa.PLh
open Go.Proofs.Ytpidiibhgfjemaa.PLg
open Go.RowKit Go.Proofs.YtpidiibhgfjemaaW.PrintWords Go.Proofs.YtpidiibhgfjemaaW.PrintLast Go.Proofs.YtpidiibhgfjemaaW.PrintMore
set_option linter.unusedVariables false
set_option linter.unusedSimpArgs false
attribute [local go_sem high] eqA34
end Go.Proofs.Ytpidiibhgfjemaa.PLh
end
section
namespace Go.Proofs.Ytpidiibhgfjemaa.PLh
open Go.Proofs.Ytpidiibhgfjemaa.PLg
open Go.RowKit Go.Proofs.YtpidiibhgfjemaaW.PrintWords Go.Proofs.YtpidiibhgfjemaaW.PrintLast Go.Proofs.YtpidiibhgfjemaaW.PrintMore
set_option linter.unusedVariables false
set_option linter.unusedSimpArgs false
attribute [local go_sem high] eqA34
end Go.Proofs.Ytpidiibhgfjemaa.PLh
end
