/- Texts of this claim, put together by a program: PDax16. -/
import Derived.Test.YtmkgecapkeojaaaGreatM8
set_option linter.unusedVariables false
set_option linter.unusedSimpArgs false
set_option maxHeartbeats 8000000
set_option maxRecDepth 100000
section
namespace Go.Proofs.YtmkgecapkeojaaaGreat.PDa
open Go.RowKit Go.Proofs.YtmkgecapkeojaaaGreatW.PrintWords Go.Proofs.YtmkgecapkeojaaaGreatW.PrintLast Go.Proofs.YtmkgecapkeojaaaGreatW.PrintMore
attribute [local go_sem] max2_int min2_int max_two min_two max_three min_three max_four min_four
theorem ref_truth (b : Bool) (w : World) : Calls Tryz.prog 170 #[.bool b] w fun e w' => e = .returned (.tuple #[.agg #[.int .i64 1, .int .i64 (tv b), .string ⟨#[]⟩], .int .i64 0]) ∧ Below w.heap.size w w' := by
 refine r18_truth.calls b 1 (tv b) ⟨#[]⟩ 0 w ?_; cases b <;> rfl
def numR (r : Int × Int) : Int × Int × ByteArray × Int := if r.2 = 0 then (1, r.1, ⟨#[]⟩, 0) else (0, 0, ⟨#[]⟩, r.2)
theorem ref_number (n e : Int) (w : World) : Calls Tryz.prog 172 #[.int .i64 n, .int .i64 e] w fun x w' => x = .returned (.tuple #[.agg #[.int .i64 (numR (n, e)).1, .int .i64 (numR (n, e)).2.1, .string (numR (n, e)).2.2.1], .int .i64 (numR (n, e)).2.2.2]) ∧ Below w.heap.size w w' := by
 refine r18_number.calls n e _ _ _ _ w ?_; unfold r18_number.f numR
 by_cases h : e = 0
 ·rw [if_pos h, if_pos h]; rfl
 ·rw [if_neg h, if_neg h]
theorem ref_text (t : ByteArray) (w : World) : Calls Tryz.prog 171 #[.string t] w fun e w' => e = .returned (.agg #[.int .i64 2, .int .i64 0, .string t]) ∧ Below w.heap.size w w' :=
 r05_Text.calls t 2 0 t w rfl
def OutV (r : Int × Int × ByteArray × Int) (e : Ending) : Prop := e = .returned (.tuple #[.agg #[.int .i64 r.1, .int .i64 r.2.1, .string r.2.2.1], .int .i64 r.2.2.2])
theorem below3 {w : World} (o1 o2 o3 : Obj) : Below w.heap.size w (((w.alloc o1).alloc o2).alloc o3) :=
 (((Below.refl _ _).alloc (Nat.le_refl _) _).alloc zq30 _).alloc zq33 _
theorem below_set3 {B : Nat} {w w' : World} (h : Below B w w') (g : Nat) (hg : B ≤ g) (v0 v1 v2 : Value) : Below B w (((w'.setCell ⟨g, 0, none⟩ v0).setCell ⟨g, 1, none⟩ v1).setCell ⟨g, 2, none⟩ v2) :=
 ((h.setCell (p := ⟨g, 0, none⟩) hg _).setCell (p := ⟨g, 1, none⟩) hg _).setCell (p := ⟨g, 2, none⟩) hg _
theorem two_kind (c a0 a1 b0 b1 : Int) (a2 b2 : ByteArray) (w : World) (h : (a0 != b0) = true) :
  Calls Tryz.prog 158 #[.int .i64 c, .agg #[.int .i64 a0, .int .i64 a1, .string a2], .agg #[.int .i64 b0, .int .i64 b1, .string b2]] w fun e w' => OutV (0, 0, ⟨#[]⟩, 12) e ∧ Below w.heap.size w w' := by
 go_enter Tryz.func158, Tryz.ntmps158; go_wp2; exact bodyPost_ret (v := .tuple #[.agg #[.int .i64 0, .int .i64 0, .string ⟨#[]⟩], .int .i64 12]) (by simp [results, Tryz.results158, go_sem]) rfl ⟨rfl, below3 _ _ _⟩
theorem below_dn {w1 w3 : World} {nd : Nat} (h : Below (w1.drewN nd).heap.size (w1.drewN nd) w3) : Below w1.heap.size w1 w3 := (pw_below_drewN (Below.refl _ w1) nd).trans h
structure Bx (g : Nat) (w : World) (x0 x1 x2 : Value) : Prop where
 c0 : w.cell? ⟨g, 0, none⟩ = some x0
 c1 : w.cell? ⟨g, 1, none⟩ = some x1
 c2 : w.cell? ⟨g, 2, none⟩ = some x2
 z0 : w.frozen? ⟨g, 0, none⟩ = false
 z1 : w.frozen? ⟨g, 1, none⟩ = false
 z2 : w.frozen? ⟨g, 2, none⟩ = false
 lt : g < w.heap.size
theorem Bx.below {g : Nat} {w w' : World} {x0 x1 x2 : Value} (h : Bx g w x0 x1 x2) (hb : Below w.heap.size w w') : Bx g w' x0 x1 x2 := by
 obtain ⟨c0, c1, c2, z0, z1, z2, lt⟩ := h; obtain ⟨hh, hz⟩ := g_bcell hb; exact ⟨(hh _ _ lt).trans c0, (hh _ _ lt).trans c1, (hh _ _ lt).trans c2, (hz _ _ lt).trans z0, (hz _ _ lt).trans z1, (hz _ _ lt).trans z2, Nat.lt_of_lt_of_le lt hb.size⟩
theorem bx3 (w : World) (x0 x1 x2 y0 y1 y2 z0 z1 z2 : Value) (t1 t2 t3 : TypeId) (W : World) (hW : ((w.alloc (Obj.cells #[x0, x1, x2] t1)).alloc (Obj.cells #[y0, y1, y2] t2)).alloc (Obj.cells #[z0, z1, z2] t3) = W) :
  Bx w.heap.size W x0 x1 x2 ∧ Bx (w.heap.size + 1) W y0 y1 y2 ∧ Bx (w.heap.size + 1 + 1) W z0 z1 z2 := by
 subst hW; refine ⟨⟨?_, ?_, ?_, ?_, ?_, ?_, ?_⟩, ⟨?_, ?_, ?_, ?_, ?_, ?_, ?_⟩, ⟨?_, ?_, ?_, ?_, ?_, ?_, ?_⟩⟩
 all_goals first | (simp [go_sem]; done) | (simp; omega)
abbrev CmpC (a0 a1 : Int) (a2 : ByteArray) (b0 b1 : Int) (b2 : ByteArray) (n : Int) : Prop := ∀ w, Calls Tryz.prog 128 #[.agg #[.int .i64 a0, .int .i64 a1, .string a2], .agg #[.int .i64 b0, .int .i64 b1, .string b2]] w fun e w' => e = .returned (.int .i64 n) ∧ Below w.heap.size w w'
def CmpIs (c n : Int) (b : Bool) : Prop := (c = 13 ∧ (n == 0) = b) ∨ (c = 14 ∧ (n != 0) = b) ∨ (c = 15 ∧ decide (n < 0) = b) ∨ (c = 16 ∧ decide (n ≤ 0) = b) ∨ (c = 17 ∧ decide (0 < n) = b) ∨ (c = 18 ∧ decide (0 ≤ n) = b)
theorem two_cmp (c a0 a1 b0 b1 n : Int) (a2 b2 : ByteArray) (w : World) (b : Bool) (h : (a0 != b0) = false) (HC : Hid (CmpC a0 a1 a2 b0 b1 b2 n)) (hn : CmpIs c n b) :
  Calls Tryz.prog 158 #[.int .i64 c, .agg #[.int .i64 a0, .int .i64 a1, .string a2], .agg #[.int .i64 b0, .int .i64 b1, .string b2]] w fun e w' => OutV (1, tv b, ⟨#[]⟩, 0) e ∧ Below w.heap.size w w' := by
 cases b
 ·rcases hn with ⟨rfl, hn⟩ | ⟨rfl, hn⟩ | ⟨rfl, hn⟩ | ⟨rfl, hn⟩ | ⟨rfl, hn⟩ | ⟨rfl, hn⟩
  all_goals
   go_enter Tryz.func158, Tryz.ntmps158
   go_wp2_with (first
    | (go_at_call 128; ((with_reducible refine (HC.out _).mono ?_); rintro e w1 ⟨rfl, hb1⟩; obtain ⟨bA, bB, bR⟩ := bx3 w _ _ _ _ _ _ _ _ _ _ _ _ _ rfl; obtain ⟨pa0, pa1, pa2, qa0, qa1, qa2, _⟩ := bA.below hb1; obtain ⟨pb0, pb1, pb2, qb0, qb1, qb2, _⟩ := bB.below hb1; replace bR := Lib.hid (bR.below hb1); obtain ⟨pr0, pr1, pr2, qr0, qr1, qr2, _⟩ := bR.out; clear bA bB; replace hb1 := Lib.hid ((below3 _ _ _).trans (hb1.mono zq33))))
    | (go_at_call 170; ((with_reducible refine (ref_truth _ _).mono ?_); rintro e w2 ⟨rfl, hb2⟩; clear pr0 pr1 pr2 qr0 qr1 qr2; obtain ⟨pr0, pr1, pr2, qr0, qr1, qr2, _⟩ := bR.out.below hb2; replace hb2 := Lib.hid (g_bel hb1.out hb2))))
   exact bodyPost_ret (v := .tuple #[.agg #[.int .i64 1, .int .i64 (tv false), .string ⟨#[]⟩], .int .i64 0]) zq54 rfl ⟨rfl, below_set3 hb2.out _ zq4 _ _ _⟩
 ·rcases hn with ⟨rfl, hn⟩ | ⟨rfl, hn⟩ | ⟨rfl, hn⟩ | ⟨rfl, hn⟩ | ⟨rfl, hn⟩ | ⟨rfl, hn⟩
  all_goals
   go_enter Tryz.func158, Tryz.ntmps158
   go_wp2_with (first
    | (go_at_call 128; ((with_reducible refine (HC.out _).mono ?_); rintro e w1 ⟨rfl, hb1⟩; obtain ⟨bA, bB, bR⟩ := bx3 w _ _ _ _ _ _ _ _ _ _ _ _ _ rfl; obtain ⟨pa0, pa1, pa2, qa0, qa1, qa2, _⟩ := bA.below hb1; obtain ⟨pb0, pb1, pb2, qb0, qb1, qb2, _⟩ := bB.below hb1; replace bR := Lib.hid (bR.below hb1); obtain ⟨pr0, pr1, pr2, qr0, qr1, qr2, _⟩ := bR.out; clear bA bB; replace hb1 := Lib.hid ((below3 _ _ _).trans (hb1.mono zq33))))
    | (go_at_call 170; ((with_reducible refine (ref_truth _ _).mono ?_); rintro e w2 ⟨rfl, hb2⟩; clear pr0 pr1 pr2 qr0 qr1 qr2; obtain ⟨pr0, pr1, pr2, qr0, qr1, qr2, _⟩ := bR.out.below hb2; replace hb2 := Lib.hid (g_bel hb1.out hb2))))
   exact bodyPost_ret (v := .tuple #[.agg #[.int .i64 1, .int .i64 (tv true), .string ⟨#[]⟩], .int .i64 0]) zq54 rfl ⟨rfl, below_set3 hb2.out _ zq4 _ _ _⟩
theorem two_mixed (c a0 a1 b0 b1 n : Int) (a2 b2 : ByteArray) (w : World) (p q : Bool) (h : (a0 != b0) = false) (HC : Hid (CmpC a0 a1 a2 b0 b1 b2 n)) (hr : decide (c ≥ 13) = false ∨ decide (c ≥ 13) = true ∧ decide (c ≤ 18) = false) (hp : (c == 12) = p) (hq : (a0 == 2) = q) (hpq : (p = true ∧ q = false) ∨ (p = false ∧ q = true)) :
  Calls Tryz.prog 158 #[.int .i64 c, .agg #[.int .i64 a0, .int .i64 a1, .string a2], .agg #[.int .i64 b0, .int .i64 b1, .string b2]] w fun e w' => OutV (0, 0, ⟨#[]⟩, 12) e ∧ Below w.heap.size w w' := by
 rcases hpq with ⟨rfl, rfl⟩ | ⟨rfl, rfl⟩
 all_goals
  rcases hr with hr | ⟨hr, hr2⟩
  all_goals
   go_enter Tryz.func158, Tryz.ntmps158
   go_wp2_with ((go_at_call 128; ((with_reducible refine (HC.out _).mono ?_); rintro e w1 ⟨rfl, hb1⟩; obtain ⟨bA, bB, bR⟩ := bx3 w _ _ _ _ _ _ _ _ _ _ _ _ _ rfl; obtain ⟨pa0, pa1, pa2, qa0, qa1, qa2, _⟩ := bA.below hb1; obtain ⟨pb0, pb1, pb2, qb0, qb1, qb2, _⟩ := bB.below hb1; replace bR := Lib.hid (bR.below hb1); obtain ⟨pr0, pr1, pr2, qr0, qr1, qr2, _⟩ := bR.out; clear bA bB; replace hb1 := Lib.hid ((below3 _ _ _).trans (hb1.mono zq33)))))
   exact bodyPost_ret (v := .tuple #[.agg #[.int .i64 0, .int .i64 0, .string ⟨#[]⟩], .int .i64 12]) zq54 rfl ⟨rfl, below_set3 hb1.out _ zq4 _ _ _⟩
theorem two_cat (a1 b1 n : Int) (a2 b2 : ByteArray) (w : World) (HC : Hid (CmpC 2 a1 a2 2 b1 b2 n)) (hl : decide ((a2.size : Int) + (b2.size : Int) > 64) = false) (hsz : ¬ 9223372036854775807 < a2.size + b2.size) :
  Calls Tryz.prog 158 #[.int .i64 12, .agg #[.int .i64 2, .int .i64 a1, .string a2], .agg #[.int .i64 2, .int .i64 b1, .string b2]] w fun e w' => OutV (2, 0, a2 ++ b2, 0) e ∧ Below w.heap.size w w' := by
 go_enter Tryz.func158, Tryz.ntmps158
 go_wp2_with (first
  | (go_at_call 128; ((with_reducible refine (HC.out _).mono ?_); rintro e w1 ⟨rfl, hb1⟩; obtain ⟨bA, bB, bR⟩ := bx3 w _ _ _ _ _ _ _ _ _ _ _ _ _ rfl; obtain ⟨pa0, pa1, pa2, qa0, qa1, qa2, _⟩ := bA.below hb1; obtain ⟨pb0, pb1, pb2, qb0, qb1, qb2, _⟩ := bB.below hb1; replace bR := Lib.hid (bR.below hb1); obtain ⟨pr0, pr1, pr2, qr0, qr1, qr2, _⟩ := bR.out; clear bA bB; replace hb1 := Lib.hid ((below3 _ _ _).trans (hb1.mono zq33))))
  | (go_at_call 171; ((with_reducible refine (ref_text _ _).mono ?_); rintro e w2 ⟨rfl, hb2⟩; clear pr0 pr1 pr2 qr0 qr1 qr2; obtain ⟨pr0, pr1, pr2, qr0, qr1, qr2, _⟩ := bR.out.below hb2; replace hb2 := Lib.hid (g_bel hb1.out hb2))))
 all_goals first | (exfalso; exact hsz (by assumption)) | (exact bodyPost_ret (v := .tuple #[.agg #[.int .i64 2, .int .i64 0, .string (a2 ++ b2)], .int .i64 0]) zq54 rfl ⟨rfl, below_set3 hb2.out _ zq4 _ _ _⟩)
theorem two_long (a1 b1 n : Int) (a2 b2 : ByteArray) (w : World) (HC : Hid (CmpC 2 a1 a2 2 b1 b2 n)) (hl : decide ((a2.size : Int) + (b2.size : Int) > 64) = true) (hsz : ¬ 9223372036854775807 < a2.size + b2.size) :
  Calls Tryz.prog 158 #[.int .i64 12, .agg #[.int .i64 2, .int .i64 a1, .string a2], .agg #[.int .i64 2, .int .i64 b1, .string b2]] w fun e w' => OutV (0, 0, ⟨#[]⟩, 6) e ∧ Below w.heap.size w w' := by
 go_enter Tryz.func158, Tryz.ntmps158
 go_wp2_with ((go_at_call 128; ((with_reducible refine (HC.out _).mono ?_); rintro e w1 ⟨rfl, hb1⟩; obtain ⟨bA, bB, bR⟩ := bx3 w _ _ _ _ _ _ _ _ _ _ _ _ _ rfl; obtain ⟨pa0, pa1, pa2, qa0, qa1, qa2, _⟩ := bA.below hb1; obtain ⟨pb0, pb1, pb2, qb0, qb1, qb2, _⟩ := bB.below hb1; replace bR := Lib.hid (bR.below hb1); obtain ⟨pr0, pr1, pr2, qr0, qr1, qr2, _⟩ := bR.out; clear bA bB; replace hb1 := Lib.hid ((below3 _ _ _).trans (hb1.mono zq33)))))
 exact bodyPost_ret (v := .tuple #[.agg #[.int .i64 0, .int .i64 0, .string ⟨#[]⟩], .int .i64 6]) zq54 rfl ⟨rfl, below_set3 hb1.out _ zq4 _ _ _⟩
theorem two_andor (c a0 a1 b0 b1 n : Int) (a2 b2 : ByteArray) (w : World) (x : Bool) (h : (a0 != b0) = false) (HC : Hid (CmpC a0 a1 a2 b0 b1 b2 n)) (hq : (a0 == 2) = false) (hx : c = 19 ∧ ((a1 != 0) = false ∧ x = false ∨ (a1 != 0) = true ∧ (b1 != 0) = x) ∨ c = 20 ∧ ((a1 != 0) = true ∧ x = true ∨ (a1 != 0) = false ∧ (b1 != 0) = x)) :
  Calls Tryz.prog 158 #[.int .i64 c, .agg #[.int .i64 a0, .int .i64 a1, .string a2], .agg #[.int .i64 b0, .int .i64 b1, .string b2]] w fun e w' => OutV (1, tv x, ⟨#[]⟩, 0) e ∧ Below w.heap.size w w' := by
 rcases hx with ⟨rfl, ⟨hx, rfl⟩ | ⟨hx, hy⟩⟩ | ⟨rfl, ⟨hx, rfl⟩ | ⟨hx, hy⟩⟩
 ·go_enter Tryz.func158, Tryz.ntmps158
  go_wp2_with (first
   | (go_at_call 128; ((with_reducible refine (HC.out _).mono ?_); rintro e w1 ⟨rfl, hb1⟩; obtain ⟨bA, bB, bR⟩ := bx3 w _ _ _ _ _ _ _ _ _ _ _ _ _ rfl; obtain ⟨pa0, pa1, pa2, qa0, qa1, qa2, _⟩ := bA.below hb1; obtain ⟨pb0, pb1, pb2, qb0, qb1, qb2, _⟩ := bB.below hb1; replace bR := Lib.hid (bR.below hb1); obtain ⟨pr0, pr1, pr2, qr0, qr1, qr2, _⟩ := bR.out; clear bA bB; replace hb1 := Lib.hid ((below3 _ _ _).trans (hb1.mono zq33))))
   | (go_at_call 170; ((with_reducible refine (ref_truth _ _).mono ?_); rintro e w2 ⟨rfl, hb2⟩; clear pr0 pr1 pr2 qr0 qr1 qr2; obtain ⟨pr0, pr1, pr2, qr0, qr1, qr2, _⟩ := bR.out.below hb2; replace hb2 := Lib.hid (g_bel hb1.out hb2))))
  all_goals first | (exact bodyPost_ret (v := .tuple #[.agg #[.int .i64 1, .int .i64 (tv false), .string ⟨#[]⟩], .int .i64 0]) zq54 rfl ⟨rfl, below_set3 hb2.out _ zq4 _ _ _⟩)
 ·go_enter Tryz.func158, Tryz.ntmps158
  go_wp2_with (first
   | (go_at_call 128; ((with_reducible refine (HC.out _).mono ?_); rintro e w1 ⟨rfl, hb1⟩; obtain ⟨bA, bB, bR⟩ := bx3 w _ _ _ _ _ _ _ _ _ _ _ _ _ rfl; obtain ⟨pa0, pa1, pa2, qa0, qa1, qa2, _⟩ := bA.below hb1; obtain ⟨pb0, pb1, pb2, qb0, qb1, qb2, _⟩ := bB.below hb1; replace bR := Lib.hid (bR.below hb1); obtain ⟨pr0, pr1, pr2, qr0, qr1, qr2, _⟩ := bR.out; clear bA bB; replace hb1 := Lib.hid ((below3 _ _ _).trans (hb1.mono zq33))))
   | (go_at_call 170; ((with_reducible refine (ref_truth _ _).mono ?_); rintro e w2 ⟨rfl, hb2⟩; clear pr0 pr1 pr2 qr0 qr1 qr2; obtain ⟨pr0, pr1, pr2, qr0, qr1, qr2, _⟩ := bR.out.below hb2; replace hb2 := Lib.hid (g_bel hb1.out hb2))))
  all_goals first | (exact bodyPost_ret (v := .tuple #[.agg #[.int .i64 1, .int .i64 (tv x), .string ⟨#[]⟩], .int .i64 0]) zq54 rfl ⟨rfl, below_set3 hb2.out _ zq4 _ _ _⟩)
 ·go_enter Tryz.func158, Tryz.ntmps158
  go_wp2_with (first
   | (go_at_call 128; ((with_reducible refine (HC.out _).mono ?_); rintro e w1 ⟨rfl, hb1⟩; obtain ⟨bA, bB, bR⟩ := bx3 w _ _ _ _ _ _ _ _ _ _ _ _ _ rfl; obtain ⟨pa0, pa1, pa2, qa0, qa1, qa2, _⟩ := bA.below hb1; obtain ⟨pb0, pb1, pb2, qb0, qb1, qb2, _⟩ := bB.below hb1; replace bR := Lib.hid (bR.below hb1); obtain ⟨pr0, pr1, pr2, qr0, qr1, qr2, _⟩ := bR.out; clear bA bB; replace hb1 := Lib.hid ((below3 _ _ _).trans (hb1.mono zq33))))
   | (go_at_call 170; ((with_reducible refine (ref_truth _ _).mono ?_); rintro e w2 ⟨rfl, hb2⟩; clear pr0 pr1 pr2 qr0 qr1 qr2; obtain ⟨pr0, pr1, pr2, qr0, qr1, qr2, _⟩ := bR.out.below hb2; replace hb2 := Lib.hid (g_bel hb1.out hb2))))
  all_goals first | (exact bodyPost_ret (v := .tuple #[.agg #[.int .i64 1, .int .i64 (tv true), .string ⟨#[]⟩], .int .i64 0]) zq54 rfl ⟨rfl, below_set3 hb2.out _ zq4 _ _ _⟩)
 ·go_enter Tryz.func158, Tryz.ntmps158
  go_wp2_with (first
   | (go_at_call 128; ((with_reducible refine (HC.out _).mono ?_); rintro e w1 ⟨rfl, hb1⟩; obtain ⟨bA, bB, bR⟩ := bx3 w _ _ _ _ _ _ _ _ _ _ _ _ _ rfl; obtain ⟨pa0, pa1, pa2, qa0, qa1, qa2, _⟩ := bA.below hb1; obtain ⟨pb0, pb1, pb2, qb0, qb1, qb2, _⟩ := bB.below hb1; replace bR := Lib.hid (bR.below hb1); obtain ⟨pr0, pr1, pr2, qr0, qr1, qr2, _⟩ := bR.out; clear bA bB; replace hb1 := Lib.hid ((below3 _ _ _).trans (hb1.mono zq33))))
   | (go_at_call 170; ((with_reducible refine (ref_truth _ _).mono ?_); rintro e w2 ⟨rfl, hb2⟩; clear pr0 pr1 pr2 qr0 qr1 qr2; obtain ⟨pr0, pr1, pr2, qr0, qr1, qr2, _⟩ := bR.out.below hb2; replace hb2 := Lib.hid (g_bel hb1.out hb2))))
  all_goals first | (exact bodyPost_ret (v := .tuple #[.agg #[.int .i64 1, .int .i64 (tv x), .string ⟨#[]⟩], .int .i64 0]) zq54 rfl ⟨rfl, below_set3 hb2.out _ zq4 _ _ _⟩)
theorem two_nums (c a0 a1 b0 b1 n : Int) (a2 b2 : ByteArray) (r : Int × Int) (fn : Nat) (w : World) (h : (a0 != b0) = false) (HC : Hid (CmpC a0 a1 a2 b0 b1 b2 n)) (hq : (a0 == 2) = false)
  (NC : Hid (∀ w, Calls Tryz.prog fn #[.int .i64 a1, .int .i64 b1] w fun e w' => e = .returned (.tuple #[.int .i64 r.1, .int .i64 r.2]) ∧ Drawn0 w w'))
  (hc : c = 7 ∧ fn = 173 ∨ c = 8 ∧ fn = 174 ∨ c = 9 ∧ fn = 175 ∨ c = 10 ∧ fn = 176) :
  Calls Tryz.prog 158 #[.int .i64 c, .agg #[.int .i64 a0, .int .i64 a1, .string a2], .agg #[.int .i64 b0, .int .i64 b1, .string b2]] w fun e w' => OutV (numR r) e ∧ Below w.heap.size w w' := by
 obtain ⟨r1, r2⟩ := r
 rcases hc with ⟨rfl, rfl⟩ | ⟨rfl, rfl⟩ | ⟨rfl, rfl⟩ | ⟨rfl, rfl⟩
 all_goals
  go_enter Tryz.func158, Tryz.ntmps158
  go_wp2_with (first
   | (go_at_call 128; ((with_reducible refine (HC.out _).mono ?_); rintro e w1 ⟨rfl, hb1⟩; obtain ⟨bA, bB, bR⟩ := bx3 w _ _ _ _ _ _ _ _ _ _ _ _ _ rfl; obtain ⟨pa0, pa1, pa2, qa0, qa1, qa2, _⟩ := bA.below hb1; obtain ⟨pb0, pb1, pb2, qb0, qb1, qb2, _⟩ := bB.below hb1; replace bR := Lib.hid (bR.below hb1); obtain ⟨pr0, pr1, pr2, qr0, qr1, qr2, _⟩ := bR.out; clear bA bB; replace hb1 := Lib.hid ((below3 _ _ _).trans (hb1.mono zq33))))
   | (go_at_call 172; ((with_reducible refine (ref_number _ _ _).mono ?_); rintro e w3 ⟨rfl, hb3⟩; have hb4 := below_dn hb3; clear pr0 pr1 pr2 qr0 qr1 qr2; obtain ⟨pr0, pr1, pr2, qr0, qr1, qr2, _⟩ := bR.out.below hb4; replace hb4 := Lib.hid (g_bel hb1.out hb4)))
   | ((with_reducible refine (NC.out _).mono ?_); rintro e w2 ⟨rfl, ⟨nd, rfl⟩⟩))
  exact bodyPost_ret (v := .tuple #[.agg #[.int .i64 (numR (r1, r2)).1, .int .i64 (numR (r1, r2)).2.1, .string (numR (r1, r2)).2.2.1], .int .i64 (numR (r1, r2)).2.2.2]) zq54 rfl ⟨rfl, below_set3 hb4.out _ zq4 _ _ _⟩
theorem two_rem (c a0 a1 b0 b1 n : Int) (a2 b2 : ByteArray) (r : Int × Int) (w : World) (h : (a0 != b0) = false) (HC : Hid (CmpC a0 a1 a2 b0 b1 b2 n)) (hq : (a0 == 2) = false) (hr : decide (c ≥ 13) = false ∨ decide (c ≥ 13) = true ∧ decide (c ≤ 18) = false)
  (NC : Hid (∀ w, Calls Tryz.prog 177 #[.int .i64 a1, .int .i64 b1] w fun e w' => e = .returned (.tuple #[.int .i64 r.1, .int .i64 r.2]) ∧ Drawn0 w w'))
  (h12 : (c == 12) = false) (h19 : (c == 19) = false) (h20 : (c == 20) = false) (h7 : (c == 7) = false) (h8 : (c == 8) = false) (h9 : (c == 9) = false) (h10 : (c == 10) = false) :
  Calls Tryz.prog 158 #[.int .i64 c, .agg #[.int .i64 a0, .int .i64 a1, .string a2], .agg #[.int .i64 b0, .int .i64 b1, .string b2]] w fun e w' => OutV (numR r) e ∧ Below w.heap.size w w' := by
 obtain ⟨r1, r2⟩ := r
 rcases hr with hr | ⟨hr, hr2⟩
 all_goals
  go_enter Tryz.func158, Tryz.ntmps158
  go_wp2_with (first
   | (go_at_call 128; ((with_reducible refine (HC.out _).mono ?_); rintro e w1 ⟨rfl, hb1⟩; obtain ⟨bA, bB, bR⟩ := bx3 w _ _ _ _ _ _ _ _ _ _ _ _ _ rfl; obtain ⟨pa0, pa1, pa2, qa0, qa1, qa2, _⟩ := bA.below hb1; obtain ⟨pb0, pb1, pb2, qb0, qb1, qb2, _⟩ := bB.below hb1; replace bR := Lib.hid (bR.below hb1); obtain ⟨pr0, pr1, pr2, qr0, qr1, qr2, _⟩ := bR.out; clear bA bB; replace hb1 := Lib.hid ((below3 _ _ _).trans (hb1.mono zq33))))
   | (go_at_call 172; ((with_reducible refine (ref_number _ _ _).mono ?_); rintro e w3 ⟨rfl, hb3⟩; have hb4 := below_dn hb3; clear pr0 pr1 pr2 qr0 qr1 qr2; obtain ⟨pr0, pr1, pr2, qr0, qr1, qr2, _⟩ := bR.out.below hb4; replace hb4 := Lib.hid (g_bel hb1.out hb4)))
   | ((with_reducible refine (NC.out _).mono ?_); rintro e w2 ⟨rfl, ⟨nd, rfl⟩⟩))
  exact bodyPost_ret (v := .tuple #[.agg #[.int .i64 (numR (r1, r2)).1, .int .i64 (numR (r1, r2)).2.1, .string (numR (r1, r2)).2.2.1], .int .i64 (numR (r1, r2)).2.2.2]) zq54 rfl ⟨rfl, below_set3 hb4.out _ zq4 _ _ _⟩
def r18_two.f (k : Nat) (a0 : Int) (a1_0 : Int) (a1_1 : Int) (a1_2 : ByteArray) (a2_0 : Int) (a2_1 : Int) (a2_2 : ByteArray) : Option (Int × Int × ByteArray × Int) :=
 if a1_0 ≠ a2_0 then some (0, 0, ⟨#[]⟩, 12) else (r05_Compare.f k a1_0 a1_1 a1_2 a2_0 a2_1 a2_2).bind fun n =>
 if 13 ≤ a0 ∧ a0 ≤ 18 then some (1, cmpS a0 n, ⟨#[]⟩, 0) else
 if (a0 = 12 ∧ a1_0 ≠ 2) ∨ (a0 ≠ 12 ∧ a1_0 = 2) then some (0, 0, ⟨#[]⟩, 12) else
 if a0 = 12 then (if a1_2.size + a2_2.size ≤ 64 then some (2, 0, a1_2 ++ a2_2, 0) else if a1_2.size + a2_2.size ≤ 4294967296 then some (0, 0, ⟨#[]⟩, 6) else none) else
 if a0 = 19 then some (1, tv ((a1_1 != 0) && (a2_1 != 0)), ⟨#[]⟩, 0) else
 if a0 = 20 then some (1, tv ((a1_1 != 0) || (a2_1 != 0)), ⟨#[]⟩, 0) else
 if a0 = 7 then (r01_Add.f a1_1 a2_1).map numR else
 if a0 = 8 then (r01_Sub.f a1_1 a2_1).map numR else
 if a0 = 9 then (r01_Mul.f k a1_1 a2_1).map numR else
 if a0 = 10 then (r01_Quo.f a1_1 a2_1).map numR else (r01_Rem.f a1_1 a2_1).map numR
theorem r18_two.calls (k : Nat) (a0 : Int) (a1_0 : Int) (a1_1 : Int) (a1_2 : ByteArray) (a2_0 : Int) (a2_1 : Int) (a2_2 : ByteArray) (r1 : Int) (r2 : Int) (r3 : ByteArray) (r4 : Int) (w : World) (h : r18_two.f k a0 a1_0 a1_1 a1_2 a2_0 a2_1 a2_2 = some (r1, r2, r3, r4)) :
  Calls Tryz.prog 158 #[.int .i64 a0, .agg #[.int .i64 a1_0, .int .i64 a1_1, .string a1_2], .agg #[.int .i64 a2_0, .int .i64 a2_1, .string a2_2]] w fun e w' => e = .returned (.tuple #[.agg #[.int .i64 r1, .int .i64 r2, .string r3], .int .i64 r4]) ∧ Below w.heap.size w w' := by
 have main : ∀ r, r18_two.f k a0 a1_0 a1_1 a1_2 a2_0 a2_1 a2_2 = some r → Calls Tryz.prog 158 #[.int .i64 a0, .agg #[.int .i64 a1_0, .int .i64 a1_1, .string a1_2], .agg #[.int .i64 a2_0, .int .i64 a2_1, .string a2_2]] w fun e w' => OutV r e ∧ Below w.heap.size w w' := by
  clear h; intro r h; unfold r18_two.f at h
  split at h
  ·rename_i h1
   obtain rfl := Option.some.inj h; exact two_kind a0 a1_0 a1_1 a2_0 a2_1 a1_2 a2_2 w (bne_iff_ne.2 h1)
  rename_i h1
  have h1 : a1_0 = a2_0 := Decidable.not_not.1 h1; subst h1; have hne : (a1_0 != a1_0) = false := by simp
  replace h := Option.bind_eq_some_iff.1 h; obtain ⟨n, hn, h⟩ := h; have HC := Lib.hid (fun w => r05_Compare.calls k a1_0 a1_1 a1_2 a1_0 a2_1 a2_2 n w hn); clear hn
  split at h
  ·rename_i h2
   obtain rfl := Option.some.inj h; have : ∃ b, CmpIs a0 n b ∧ cmpS a0 n = tv b := by
    unfold CmpIs cmpS; have : a0 = 13 ∨ a0 = 14 ∨ a0 = 15 ∨ a0 = 16 ∨ a0 = 17 ∨ a0 = 18 := by omega
    rcases this with rfl | rfl | rfl | rfl | rfl | rfl
    ·exact ⟨n == 0, by simp, by simp⟩
    ·exact ⟨n != 0, by simp, by simp⟩
    ·exact ⟨decide (n < 0), by simp, by simp⟩
    ·exact ⟨decide (n ≤ 0), by simp, by simp⟩
    ·exact ⟨decide (0 < n), by simp, by simp⟩
    ·exact ⟨decide (0 ≤ n), by simp, by simp⟩
   obtain ⟨b, hb, e⟩ := this; rw [e]; exact two_cmp a0 a1_0 a1_1 a1_0 a2_1 n a1_2 a2_2 w b hne HC hb
  rename_i h2
  have hr : decide (a0 ≥ 13) = false ∨ decide (a0 ≥ 13) = true ∧ decide (a0 ≤ 18) = false := by
   by_cases h : a0 ≥ 13
   ·exact .inr ⟨decide_eq_true h, decide_eq_false (fun h' => h2 ⟨h, h'⟩)⟩
   ·exact .inl (decide_eq_false h)
  split at h
  ·rename_i h3
   obtain rfl := Option.some.inj h; exact two_mixed a0 a1_0 a1_1 a1_0 a2_1 n a1_2 a2_2 w (a0 == 12) (a1_0 == 2) hne HC hr rfl rfl (by
    rcases h3 with ⟨h, h'⟩ | ⟨h, h'⟩
    ·exact .inl ⟨by simpa using h, by simpa using h'⟩
    ·exact .inr ⟨by simpa using h, by simpa using h'⟩)
  rename_i h3
  split at h
  ·rename_i h4
   subst h4; have h5 : a1_0 = 2 := by omega
   subst h5
   split at h
   ·obtain rfl := Option.some.inj h
    exact two_cat a1_1 a2_1 n a1_2 a2_2 w HC (decide_eq_false zq4) zq4
   split at h
   ·obtain rfl := Option.some.inj h
    exact two_long a1_1 a2_1 n a1_2 a2_2 w HC (decide_eq_true zq4) zq4
   ·simp at h
  rename_i h4
  have hq : (a1_0 == 2) = false := by
   rw [beq_eq_false_iff_ne]; intro e; exact h3 (.inr ⟨h4, e⟩)
  split at h
  ·rename_i h5
   obtain rfl := Option.some.inj h; exact two_andor a0 a1_0 a1_1 a1_0 a2_1 n a1_2 a2_2 w _ hne HC hq (.inl ⟨h5, by cases (a1_1 != 0) <;> simp⟩)
  split at h
  ·rename_i h5
   obtain rfl := Option.some.inj h; exact two_andor a0 a1_0 a1_1 a1_0 a2_1 n a1_2 a2_2 w _ hne HC hq (.inr ⟨h5, by cases (a1_1 != 0) <;> simp⟩)
  rename_i h5 h6
  split at h
  ·rename_i h7
   obtain ⟨x, hx, rfl⟩ := Option.map_eq_some_iff.1 h; exact two_nums a0 a1_0 a1_1 a1_0 a2_1 n a1_2 a2_2 x _ w hne HC hq (Lib.hid fun w => r01_Add.calls _ _ x.1 x.2 w hx) (.inl ⟨h7, rfl⟩)
  split at h
  ·rename_i h7
   obtain ⟨x, hx, rfl⟩ := Option.map_eq_some_iff.1 h; exact two_nums a0 a1_0 a1_1 a1_0 a2_1 n a1_2 a2_2 x _ w hne HC hq (Lib.hid fun w => r01_Sub.calls _ _ x.1 x.2 w hx) (.inr (.inl ⟨h7, rfl⟩))
  split at h
  ·rename_i h7
   obtain ⟨x, hx, rfl⟩ := Option.map_eq_some_iff.1 h; exact two_nums a0 a1_0 a1_1 a1_0 a2_1 n a1_2 a2_2 x _ w hne HC hq (Lib.hid fun w => r01_Mul.calls k _ _ x.1 x.2 w hx) (.inr (.inr (.inl ⟨h7, rfl⟩)))
  split at h
  ·rename_i h7
   obtain ⟨x, hx, rfl⟩ := Option.map_eq_some_iff.1 h; exact two_nums a0 a1_0 a1_1 a1_0 a2_1 n a1_2 a2_2 x _ w hne HC hq (Lib.hid fun w => r01_Quo.calls _ _ x.1 x.2 w hx) (.inr (.inr (.inr ⟨h7, rfl⟩)))
  ·rename_i h7 h8 h9 h10
   obtain ⟨x, hx, rfl⟩ := Option.map_eq_some_iff.1 h; exact two_rem a0 a1_0 a1_1 a1_0 a2_1 n a1_2 a2_2 x w hne HC hq hr (Lib.hid fun w => r01_Rem.calls _ _ x.1 x.2 w hx) (beq_eq_false_iff_ne.2 h4) (beq_eq_false_iff_ne.2 h5) (beq_eq_false_iff_ne.2 h6) (beq_eq_false_iff_ne.2 h7) (beq_eq_false_iff_ne.2 h8) (beq_eq_false_iff_ne.2 h9) (beq_eq_false_iff_ne.2 h10)
 exact main (r1, r2, r3, r4) h
def r01_Neg.f (a0 : Int) : Option (Int × Int) := (r01_Sub.f 0 a0).bind fun bt330 => (some (bt330.1, bt330.2))
theorem r01_Neg.calls (a0 : Int) (r1 : Int) (r2 : Int) (w : World) (h : r01_Neg.f a0 = some (r1, r2)) :
  Calls Tryz.prog 179 #[.int .i64 a0] w fun e w' => e = .returned (.tuple #[.int .i64 r1, .int .i64 r2]) ∧ Drawn0 w w' := by
 have H : ((r01_Sub.f 0 a0).bind fun bt330 => (some (bt330.1, bt330.2))) = some (r1, r2) := h; clear h; replace H := Option.bind_eq_some_iff.mp H; obtain ⟨⟨t330, t331⟩, A20, H⟩ := H; replace H : (some (t330, t331)) = some (r1, r2) := H; have A2 := Aside0.mk A20; clear A20; simp only [Option.some.injEq, Prod.mk.injEq] at H; obtain ⟨rfl, rfl⟩ := H; go_enter Tryz.func179, Tryz.ntmps179
 go_wp2_with (first | (refine gZ 5 Tryz.func174 #[.int .i64 0, .int .i64 a0] ?_; (with_reducible refine (r01_Sub.calls 0 a0 t330 t331 _ A2.out).mono ?_); rintro e w' ⟨rfl, ⟨nd, rfl⟩⟩; refine ⟨_, rfl, ?_⟩))
 go_ret2; exact ⟨zq3, zq5⟩
def r18_one.f (a0_0 : Int) (a0_1 : Int) (a0_2 : ByteArray) (l1 : List (S65)) (a2_0 : Int) (a2_1 : Int) (a2_2 : ByteArray) : Option (Int × Int × ByteArray × Int) := if a0_0 = 1 then ((r05_Num.f a0_1).bind fun bt335 => (some (bt335.1, bt335.2.1, bt335.2.2, 0))) else (if a0_0 = 2 then ((r05_Text.f a0_2).bind fun bt338 => (some (bt338.1, bt338.2.1, bt338.2.2, 0))) else (if a0_0 = 3 then (if a0_1 ≥ (l1.length : Int) then (some (0, 0, (⟨#[]⟩ : ByteArray), 3)) else (if 0 ≤ a0_1 then (if a0_1 < (l1.length : Int) then (some ((rd_T65 l1 a0_1).f0, (rd_T65 l1 a0_1).f1, (rd_T65 l1 a0_1).f2, 0)) else (none)) else (none))) else (if a0_0 = 6 then (if a2_0 = 2 then ((r05_Num.f (a2_2.size : Int)).bind fun bt342 => (some (bt342.1, bt342.2.1, bt342.2.2, 0))) else (some (0, 0, (⟨#[]⟩ : ByteArray), 12))) else (if a2_0 = 1 then (if a0_0 = 5 then ((r18_truth.f (a2_1 == 0)).bind fun bt345 => (some (bt345.1, bt345.2.1, bt345.2.2.1, bt345.2.2.2))) else ((r01_Neg.f a2_1).bind fun bt349 => ((r18_number.f bt349.1 bt349.2).bind fun bt351 => (some (bt351.1, bt351.2.1, bt351.2.2.1, bt351.2.2.2))))) else (some (0, 0, (⟨#[]⟩ : ByteArray), 12))))))
theorem r18_one.calls (a0_0 : Int) (a0_1 : Int) (a0_2 : ByteArray) (A1 : Option Addr) (c1 : Nat) (l1 : List (S65)) (a2_0 : Int) (a2_1 : Int) (a2_2 : ByteArray) (r1 : Int) (r2 : Int) (r3 : ByteArray) (r4 : Int) (w : World) (hr1 : Kd.C k65 w A1 l1.length l1) (hc1 : l1.length ≤ c1) (h : r18_one.f a0_0 a0_1 a0_2 l1 a2_0 a2_1 a2_2 = some (r1, r2, r3, r4)) :
  Calls Tryz.prog 159 #[.agg #[.int .i64 a0_0, .int .i64 a0_1, .string a0_2], .slice A1 l1.length c1, .agg #[.int .i64 a2_0, .int .i64 a2_1, .string a2_2]] w fun e w' => e = .returned (.tuple #[.agg #[.int .i64 r1, .int .i64 r2, .string r3], .int .i64 r4]) ∧ Below w.heap.size w w' := by
 have hu68 := Tryz.underlying68; have hu65 := Tryz.underlying65; have HR1 := Aside0.mk hr1; have HC1 := Aside0.mk hc1; clear hr1 hc1; have HB := Aside0.mk (Below.refl w.heap.size w); have H : (if a0_0 = 1 then ((r05_Num.f a0_1).bind fun bt335 => (some (bt335.1, bt335.2.1, bt335.2.2, 0))) else (if a0_0 = 2 then ((r05_Text.f a0_2).bind fun bt338 => (some (bt338.1, bt338.2.1, bt338.2.2, 0))) else (if a0_0 = 3 then (if a0_1 ≥ (l1.length : Int) then (some (0, 0, (⟨#[]⟩ : ByteArray), 3)) else (if 0 ≤ a0_1 then (if a0_1 < (l1.length : Int) then (some ((rd_T65 l1 a0_1).f0, (rd_T65 l1 a0_1).f1, (rd_T65 l1 a0_1).f2, 0)) else (none)) else (none))) else (if a0_0 = 6 then (if a2_0 = 2 then ((r05_Num.f (a2_2.size : Int)).bind fun bt342 => (some (bt342.1, bt342.2.1, bt342.2.2, 0))) else (some (0, 0, (⟨#[]⟩ : ByteArray), 12))) else (if a2_0 = 1 then (if a0_0 = 5 then ((r18_truth.f (a2_1 == 0)).bind fun bt345 => (some (bt345.1, bt345.2.1, bt345.2.2.1, bt345.2.2.2))) else ((r01_Neg.f a2_1).bind fun bt349 => ((r18_number.f bt349.1 bt349.2).bind fun bt351 => (some (bt351.1, bt351.2.1, bt351.2.2.1, bt351.2.2.2))))) else (some (0, 0, (⟨#[]⟩ : ByteArray), 12))))))) = some (r1, r2, r3, r4) := h; clear h
 by_cases c4 : a0_0 = 1
 ·rw [if_pos c4] at H
  have c4b0 : (a0_0 == 1) = true := beq_iff_eq.mpr c4; have c4b1 : (a0_0 != 1) = false := bne_eq_false_iff_eq.mpr c4; clear c4; replace H := Option.bind_eq_some_iff.mp H; obtain ⟨⟨t335, t336, t337⟩, A50, H⟩ := H; replace H : (some (t335, t336, t337, 0)) = some (r1, r2, r3, r4) := H; have A5 := Aside0.mk A50; clear A50; simp only [Option.some.injEq, Prod.mk.injEq] at H; obtain ⟨rfl, rfl, rfl, rfl⟩ := H; go_enter Tryz.func159, Tryz.ntmps159
  go_wp2_with (first | (refine bZ 3 #[.int .i64 a0_0, .int .i64 a0_1, .string a0_2] 68 ?_; intro gb332 hg w6 hbox hb; have BK332 := Aside0.mk (hbox); have GW332 := GB HB hg; have GE332 := GW332; replace HB := BB HB hb; clear hb hbox hg) | (refine bZ 5 #[.int .i64 a2_0, .int .i64 a2_1, .string a2_2] 65 ?_; intro gb333 hg w7 hbox hb; have BK333 := Aside0.mk (hbox); have GW333 := Aside0.mk (zq27); have GE333 := Aside0.mk (zq27); have NB332_333 := LB BK332 hg; have NB333_332 := MB BK332 hg; replace BK332 := KB BK332 hb; replace HB := Aside0.mk (below_step zq9 hb); clear hb hbox hg) | (refine bZ 6 #[.int .i64 0, .int .i64 0, .string (⟨#[]⟩ : ByteArray)] 65 ?_; intro gb334 hg w8 hbox hb; have BK334 := Aside0.mk (hbox); have GW334 := Aside0.mk (zq28); have GE334 := Aside0.mk (zq28); have NB332_334 := LB BK332 hg; have NB334_332 := MB BK332 hg; have NB333_334 := LB BK333 hg; have NB334_333 := MB BK333 hg; replace BK332 := KB BK332 hb; replace BK333 := KB BK333 hb; replace HB := Aside0.mk (below_step zq7 hb); clear hb hbox hg; have hnb9 := NB332_333.out; have hnc9 := NB333_332.out; have hnb10 := NB332_334.out; have hnc10 := NB334_332.out; obtain ⟨hcz11_0, hcz11_1, hcz11_2, hfz11_0, hfz11_1, hfz11_2⟩ := bL3 BK332) | (refine gZ 13 Tryz.func178 #[.int .i64 a0_1] ?_; (with_reducible refine (r05_Num.calls a0_1 t335 t336 t337 _ A5.out).mono ?_); rintro e w12 ⟨rfl, hb⟩; refine ⟨_, rfl, ?_⟩; replace BK332 := KB BK332 hb; replace BK333 := KB BK333 hb; replace BK334 := KB BK334 hb; replace HB := Aside0.mk (below_step zq11 hb); (try clear hb); have hnb13 := NB334_333.out; have hnc13 := NB333_334.out; obtain ⟨hcz14_0, hcz14_1, hcz14_2, hfz14_0, hfz14_1, hfz14_2⟩ := bL3 BK334))
  refine bodyPost_ret (results_ct rfl _ _ gb334 65 #[.int .i64 t335, .int .i64 t336, .string t337] (0, 0) _ rfl (by (with_reducible repeat (first | refine blk_drewN ?_ _ | refine blk_drew ?_ | refine blk_alloc ?_ _)); refine blk_put (cs := #[.int .i64 t335, .int .i64 t336, .string (⟨#[]⟩ : ByteArray)]) ?_ 2 _ rfl; (with_reducible repeat (first | refine blk_drewN ?_ _ | refine blk_drew ?_ | refine blk_alloc ?_ _)); refine blk_put (cs := #[.int .i64 t335, .int .i64 0, .string (⟨#[]⟩ : ByteArray)]) ?_ 1 _ rfl; (with_reducible repeat (first | refine blk_drewN ?_ _ | refine blk_drew ?_ | refine blk_alloc ?_ _)); refine blk_put (cs := #[.int .i64 0, .int .i64 0, .string (⟨#[]⟩ : ByteArray)]) ?_ 0 _ rfl; (with_reducible repeat (first | refine blk_drewN ?_ _ | refine blk_drew ?_ | refine blk_alloc ?_ _)); exact BK334.out) Tryz.underlying65 rfl zq17) rfl ?_; exact ⟨zq2, zq11⟩
 ·rw [if_neg c4] at H
  have c4b0 : (a0_0 == 1) = false := beq_eq_false_iff_ne.mpr c4; have c4b1 : (a0_0 != 1) = true := bne_iff_ne.mpr c4
  by_cases c15 : a0_0 = 2
  ·rw [if_pos c15] at H
   have c15b0 : (a0_0 == 2) = true := beq_iff_eq.mpr c15; have c15b1 : (a0_0 != 2) = false := bne_eq_false_iff_eq.mpr c15; clear c15; replace H := Option.bind_eq_some_iff.mp H; obtain ⟨⟨t338, t339, t340⟩, A160, H⟩ := H; replace H : (some (t338, t339, t340, 0)) = some (r1, r2, r3, r4) := H; have A16 := Aside0.mk A160; clear A160; simp only [Option.some.injEq, Prod.mk.injEq] at H; obtain ⟨rfl, rfl, rfl, rfl⟩ := H; go_enter Tryz.func159, Tryz.ntmps159
   go_wp2_with (first | (refine bZ 3 #[.int .i64 a0_0, .int .i64 a0_1, .string a0_2] 68 ?_; intro gb332 hg w17 hbox hb; have BK332 := Aside0.mk (hbox); have GW332 := GB HB hg; have GE332 := GW332; replace HB := BB HB hb; clear hb hbox hg) | (refine bZ 5 #[.int .i64 a2_0, .int .i64 a2_1, .string a2_2] 65 ?_; intro gb333 hg w18 hbox hb; have BK333 := Aside0.mk (hbox); have GW333 := Aside0.mk (zq27); have GE333 := Aside0.mk (zq27); have NB332_333 := LB BK332 hg; have NB333_332 := MB BK332 hg; replace BK332 := KB BK332 hb; replace HB := Aside0.mk (below_step zq9 hb); clear hb hbox hg) | (refine bZ 6 #[.int .i64 0, .int .i64 0, .string (⟨#[]⟩ : ByteArray)] 65 ?_; intro gb334 hg w19 hbox hb; have BK334 := Aside0.mk (hbox); have GW334 := Aside0.mk (zq28); have GE334 := Aside0.mk (zq28); have NB332_334 := LB BK332 hg; have NB334_332 := MB BK332 hg; have NB333_334 := LB BK333 hg; have NB334_333 := MB BK333 hg; replace BK332 := KB BK332 hb; replace BK333 := KB BK333 hb; replace HB := Aside0.mk (below_step zq7 hb); clear hb hbox hg; have hnb20 := NB332_333.out; have hnc20 := NB333_332.out; have hnb21 := NB332_334.out; have hnc21 := NB334_332.out; obtain ⟨hcz22_0, hcz22_1, hcz22_2, hfz22_0, hfz22_1, hfz22_2⟩ := bL3 BK332) | (refine gZ 19 Tryz.func171 #[.string a0_2] ?_; (with_reducible refine (r05_Text.calls a0_2 t338 t339 t340 _ A16.out).mono ?_); rintro e w23 ⟨rfl, hb⟩; refine ⟨_, rfl, ?_⟩; replace BK332 := KB BK332 hb; replace BK333 := KB BK333 hb; replace BK334 := KB BK334 hb; replace HB := Aside0.mk (below_step zq11 hb); (try clear hb); have hnb24 := NB334_333.out; have hnc24 := NB333_334.out; obtain ⟨hcz25_0, hcz25_1, hcz25_2, hfz25_0, hfz25_1, hfz25_2⟩ := bL3 BK334))
   refine bodyPost_ret (results_ct rfl _ _ gb334 65 #[.int .i64 t338, .int .i64 t339, .string t340] (0, 0) _ rfl (by (with_reducible repeat (first | refine blk_drewN ?_ _ | refine blk_drew ?_ | refine blk_alloc ?_ _)); refine blk_put (cs := #[.int .i64 t338, .int .i64 t339, .string (⟨#[]⟩ : ByteArray)]) ?_ 2 _ rfl; (with_reducible repeat (first | refine blk_drewN ?_ _ | refine blk_drew ?_ | refine blk_alloc ?_ _)); refine blk_put (cs := #[.int .i64 t338, .int .i64 0, .string (⟨#[]⟩ : ByteArray)]) ?_ 1 _ rfl; (with_reducible repeat (first | refine blk_drewN ?_ _ | refine blk_drew ?_ | refine blk_alloc ?_ _)); refine blk_put (cs := #[.int .i64 0, .int .i64 0, .string (⟨#[]⟩ : ByteArray)]) ?_ 0 _ rfl; (with_reducible repeat (first | refine blk_drewN ?_ _ | refine blk_drew ?_ | refine blk_alloc ?_ _)); exact BK334.out) Tryz.underlying65 rfl zq17) rfl ?_; exact ⟨zq2, zq11⟩
  ·rw [if_neg c15] at H
   have c15b0 : (a0_0 == 2) = false := beq_eq_false_iff_ne.mpr c15; have c15b1 : (a0_0 != 2) = true := bne_iff_ne.mpr c15
   by_cases c26 : a0_0 = 3
   ·rw [if_pos c26] at H
    have c26b0 : (a0_0 == 3) = true := beq_iff_eq.mpr c26; have c26b1 : (a0_0 != 3) = false := bne_eq_false_iff_eq.mpr c26; clear c26
    by_cases c27 : a0_1 ≥ (l1.length : Int)
    ·rw [if_pos c27] at H
     have c27b0 : decide ((l1.length : Int) ≤ a0_1) = true := decide_eq_true c27; clear c27; simp only [Option.some.injEq, Prod.mk.injEq] at H; obtain ⟨rfl, rfl, rfl, rfl⟩ := H; go_enter Tryz.func159, Tryz.ntmps159
     go_wp2_with (first | (refine bZ 3 #[.int .i64 a0_0, .int .i64 a0_1, .string a0_2] 68 ?_; intro gb332 hg w28 hbox hb; have BK332 := Aside0.mk (hbox); have GW332 := GB HB hg; have GE332 := GW332; replace HB := BB HB hb; clear hb hbox hg) | (refine bZ 5 #[.int .i64 a2_0, .int .i64 a2_1, .string a2_2] 65 ?_; intro gb333 hg w29 hbox hb; have BK333 := Aside0.mk (hbox); have GW333 := Aside0.mk (zq27); have GE333 := Aside0.mk (zq27); have NB332_333 := LB BK332 hg; have NB333_332 := MB BK332 hg; replace BK332 := KB BK332 hb; replace HB := Aside0.mk (below_step zq9 hb); clear hb hbox hg) | (refine bZ 6 #[.int .i64 0, .int .i64 0, .string (⟨#[]⟩ : ByteArray)] 65 ?_; intro gb334 hg w30 hbox hb; have BK334 := Aside0.mk (hbox); have GW334 := Aside0.mk (zq28); have GE334 := Aside0.mk (zq28); have NB332_334 := LB BK332 hg; have NB334_332 := MB BK332 hg; have NB333_334 := LB BK333 hg; have NB334_333 := MB BK333 hg; replace BK332 := KB BK332 hb; replace BK333 := KB BK333 hb; replace HB := Aside0.mk (below_step zq7 hb); clear hb hbox hg; have hnb31 := NB332_333.out; have hnc31 := NB333_332.out; have hnb32 := NB332_334.out; have hnc32 := NB334_332.out; obtain ⟨hcz33_0, hcz33_1, hcz33_2, hfz33_0, hfz33_1, hfz33_2⟩ := bL3 BK332; have hnb34 := NB334_333.out; have hnc34 := NB333_334.out; obtain ⟨hcz35_0, hcz35_1, hcz35_2, hfz35_0, hfz35_1, hfz35_2⟩ := bL3 BK334))
     refine bodyPost_ret (results_ct rfl _ _ gb334 65 #[.int .i64 0, .int .i64 0, .string (⟨#[]⟩ : ByteArray)] (0, 0) _ rfl zq20 Tryz.underlying65 rfl zq17) rfl ?_; exact ⟨zq2, zq11⟩
    ·rw [if_neg c27] at H
     have c27b0 : decide ((l1.length : Int) ≤ a0_1) = false := decide_eq_false c27; clear c27
     by_cases c36 : 0 ≤ a0_1
     ·rw [if_pos c36] at H
      have c36b0 : decide (0 ≤ a0_1) = true := decide_eq_true c36; clear c36
      by_cases c37 : a0_1 < (l1.length : Int)
      ·rw [if_pos c37] at H
       have c37b0 : decide (a0_1 < (l1.length : Int)) = true := decide_eq_true c37; clear c37; simp only [Option.some.injEq, Prod.mk.injEq] at H; obtain ⟨rfl, rfl, rfl, rfl⟩ := H; go_enter Tryz.func159, Tryz.ntmps159
       go_wp2_with (first | (refine bZ 3 #[.int .i64 a0_0, .int .i64 a0_1, .string a0_2] 68 ?_; intro gb332 hg w38 hbox hb; have BK332 := Aside0.mk (hbox); have GW332 := GB HB hg; have GE332 := GW332; replace HB := BB HB hb; clear hb hbox hg) | (refine bZ 5 #[.int .i64 a2_0, .int .i64 a2_1, .string a2_2] 65 ?_; intro gb333 hg w39 hbox hb; have BK333 := Aside0.mk (hbox); have GW333 := Aside0.mk (zq27); have GE333 := Aside0.mk (zq27); have NB332_333 := LB BK332 hg; have NB333_332 := MB BK332 hg; replace BK332 := KB BK332 hb; replace HB := Aside0.mk (below_step zq9 hb); clear hb hbox hg) | (refine bZ 6 #[.int .i64 0, .int .i64 0, .string (⟨#[]⟩ : ByteArray)] 65 ?_; intro gb334 hg w40 hbox hb; have BK334 := Aside0.mk (hbox); have GW334 := Aside0.mk (zq28); have GE334 := Aside0.mk (zq28); have NB332_334 := LB BK332 hg; have NB334_332 := MB BK332 hg; have NB333_334 := LB BK333 hg; have NB334_333 := MB BK333 hg; replace BK332 := KB BK332 hb; replace BK333 := KB BK333 hb; replace HB := Aside0.mk (below_step zq7 hb); clear hb hbox hg; have hnb41 := NB332_333.out; have hnc41 := NB333_332.out; have hnb42 := NB332_334.out; have hnc42 := NB334_332.out; obtain ⟨hcz43_0, hcz43_1, hcz43_2, hfz43_0, hfz43_1, hfz43_2⟩ := bL3 BK332; have p341 : 0 ≤ (a0_1 : Int) := of_decide_eq_true zq1; have q341 : a0_1 < (l1.length : Int) := of_decide_eq_true zq1; obtain ⟨ad341, e341, hx341_0, hx341_1, hx341_2⟩ := at_T65 HR1.out a0_1 p341 q341; cases e341; replace hx341_0 := hZ hx341_0 HB.out; replace hx341_1 := hZ hx341_1 HB.out; replace hx341_2 := hZ hx341_2 HB.out; replace p341 := eq_true p341; replace q341 := eq_true q341; have hnb44 := NB334_333.out; have hnc44 := NB333_334.out; obtain ⟨hcz45_0, hcz45_1, hcz45_2, hfz45_0, hfz45_1, hfz45_2⟩ := bL3 BK334))
       refine bodyPost_ret (results_ct rfl _ _ gb334 65 #[.int .i64 ((rd_T65 l1 a0_1).f0), .int .i64 ((rd_T65 l1 a0_1).f1), .string ((rd_T65 l1 a0_1).f2)] (0, 0) _ rfl (by (with_reducible repeat (first | refine blk_drewN ?_ _ | refine blk_drew ?_ | refine blk_alloc ?_ _)); refine blk_put (cs := #[.int .i64 ((rd_T65 l1 a0_1).f0), .int .i64 ((rd_T65 l1 a0_1).f1), .string (⟨#[]⟩ : ByteArray)]) ?_ 2 _ rfl; (with_reducible repeat (first | refine blk_drewN ?_ _ | refine blk_drew ?_ | refine blk_alloc ?_ _)); refine blk_put (cs := #[.int .i64 ((rd_T65 l1 a0_1).f0), .int .i64 0, .string (⟨#[]⟩ : ByteArray)]) ?_ 1 _ rfl; (with_reducible repeat (first | refine blk_drewN ?_ _ | refine blk_drew ?_ | refine blk_alloc ?_ _)); refine blk_put (cs := #[.int .i64 0, .int .i64 0, .string (⟨#[]⟩ : ByteArray)]) ?_ 0 _ rfl; (with_reducible repeat (first | refine blk_drewN ?_ _ | refine blk_drew ?_ | refine blk_alloc ?_ _)); exact BK334.out) Tryz.underlying65 rfl zq17) rfl ?_; exact ⟨zq2, zq11⟩
      ·rw [if_neg c37] at H
       exact absurd H zq30
     ·rw [if_neg c36] at H
      exact absurd H zq30
   ·rw [if_neg c26] at H
    have c26b0 : (a0_0 == 3) = false := beq_eq_false_iff_ne.mpr c26; have c26b1 : (a0_0 != 3) = true := bne_iff_ne.mpr c26
    by_cases c46 : a0_0 = 6
    ·rw [if_pos c46] at H
     have c46b0 : (a0_0 == 6) = true := beq_iff_eq.mpr c46; have c46b1 : (a0_0 != 6) = false := bne_eq_false_iff_eq.mpr c46; clear c46
     by_cases c47 : a2_0 = 2
     ·rw [if_pos c47] at H
      have c47b0 : (a2_0 == 2) = true := beq_iff_eq.mpr c47; have c47b1 : (a2_0 != 2) = false := bne_eq_false_iff_eq.mpr c47; clear c47; replace H := Option.bind_eq_some_iff.mp H; obtain ⟨⟨t342, t343, t344⟩, A480, H⟩ := H; replace H : (some (t342, t343, t344, 0)) = some (r1, r2, r3, r4) := H; have A48 := Aside0.mk A480; clear A480; simp only [Option.some.injEq, Prod.mk.injEq] at H; obtain ⟨rfl, rfl, rfl, rfl⟩ := H; go_enter Tryz.func159, Tryz.ntmps159
      go_wp2_with (first | (refine bZ 3 #[.int .i64 a0_0, .int .i64 a0_1, .string a0_2] 68 ?_; intro gb332 hg w49 hbox hb; have BK332 := Aside0.mk (hbox); have GW332 := GB HB hg; have GE332 := GW332; replace HB := BB HB hb; clear hb hbox hg) | (refine bZ 5 #[.int .i64 a2_0, .int .i64 a2_1, .string a2_2] 65 ?_; intro gb333 hg w50 hbox hb; have BK333 := Aside0.mk (hbox); have GW333 := Aside0.mk (zq27); have GE333 := Aside0.mk (zq27); have NB332_333 := LB BK332 hg; have NB333_332 := MB BK332 hg; replace BK332 := KB BK332 hb; replace HB := Aside0.mk (below_step zq9 hb); clear hb hbox hg) | (refine bZ 6 #[.int .i64 0, .int .i64 0, .string (⟨#[]⟩ : ByteArray)] 65 ?_; intro gb334 hg w51 hbox hb; have BK334 := Aside0.mk (hbox); have GW334 := Aside0.mk (zq28); have GE334 := Aside0.mk (zq28); have NB332_334 := LB BK332 hg; have NB334_332 := MB BK332 hg; have NB333_334 := LB BK333 hg; have NB334_333 := MB BK333 hg; replace BK332 := KB BK332 hb; replace BK333 := KB BK333 hb; replace HB := Aside0.mk (below_step zq7 hb); clear hb hbox hg; have hnb52 := NB332_333.out; have hnc52 := NB333_332.out; have hnb53 := NB332_334.out; have hnc53 := NB334_332.out; obtain ⟨hcz54_0, hcz54_1, hcz54_2, hfz54_0, hfz54_1, hfz54_2⟩ := bL3 BK332; have hnb55 := NB333_334.out; have hnc55 := NB334_333.out; obtain ⟨hcz56_0, hcz56_1, hcz56_2, hfz56_0, hfz56_1, hfz56_2⟩ := bL3 BK333) | (refine gZ 44 Tryz.func178 #[.int .i64 (a2_2.size : Int)] ?_; (with_reducible refine (r05_Num.calls (a2_2.size : Int) t342 t343 t344 _ A48.out).mono ?_); rintro e w57 ⟨rfl, hb⟩; refine ⟨_, rfl, ?_⟩; replace BK332 := KB BK332 hb; replace BK333 := KB BK333 hb; replace BK334 := KB BK334 hb; replace HB := Aside0.mk (below_step zq11 hb); (try clear hb); obtain ⟨hcz58_0, hcz58_1, hcz58_2, hfz58_0, hfz58_1, hfz58_2⟩ := bL3 BK334))
      refine bodyPost_ret (results_ct rfl _ _ gb334 65 #[.int .i64 t342, .int .i64 t343, .string t344] (0, 0) _ rfl (by (with_reducible repeat (first | refine blk_drewN ?_ _ | refine blk_drew ?_ | refine blk_alloc ?_ _)); refine blk_put (cs := #[.int .i64 t342, .int .i64 t343, .string (⟨#[]⟩ : ByteArray)]) ?_ 2 _ rfl; (with_reducible repeat (first | refine blk_drewN ?_ _ | refine blk_drew ?_ | refine blk_alloc ?_ _)); refine blk_put (cs := #[.int .i64 t342, .int .i64 0, .string (⟨#[]⟩ : ByteArray)]) ?_ 1 _ rfl; (with_reducible repeat (first | refine blk_drewN ?_ _ | refine blk_drew ?_ | refine blk_alloc ?_ _)); refine blk_put (cs := #[.int .i64 0, .int .i64 0, .string (⟨#[]⟩ : ByteArray)]) ?_ 0 _ rfl; (with_reducible repeat (first | refine blk_drewN ?_ _ | refine blk_drew ?_ | refine blk_alloc ?_ _)); exact BK334.out) Tryz.underlying65 rfl zq17) rfl ?_; exact ⟨zq2, zq11⟩
     ·rw [if_neg c47] at H
      have c47b0 : (a2_0 == 2) = false := beq_eq_false_iff_ne.mpr c47; have c47b1 : (a2_0 != 2) = true := bne_iff_ne.mpr c47; simp only [Option.some.injEq, Prod.mk.injEq] at H; obtain ⟨rfl, rfl, rfl, rfl⟩ := H; go_enter Tryz.func159, Tryz.ntmps159
      go_wp2_with (first | (refine bZ 3 #[.int .i64 a0_0, .int .i64 a0_1, .string a0_2] 68 ?_; intro gb332 hg w59 hbox hb; have BK332 := Aside0.mk (hbox); have GW332 := GB HB hg; have GE332 := GW332; replace HB := BB HB hb; clear hb hbox hg) | (refine bZ 5 #[.int .i64 a2_0, .int .i64 a2_1, .string a2_2] 65 ?_; intro gb333 hg w60 hbox hb; have BK333 := Aside0.mk (hbox); have GW333 := Aside0.mk (zq27); have GE333 := Aside0.mk (zq27); have NB332_333 := LB BK332 hg; have NB333_332 := MB BK332 hg; replace BK332 := KB BK332 hb; replace HB := Aside0.mk (below_step zq9 hb); clear hb hbox hg) | (refine bZ 6 #[.int .i64 0, .int .i64 0, .string (⟨#[]⟩ : ByteArray)] 65 ?_; intro gb334 hg w61 hbox hb; have BK334 := Aside0.mk (hbox); have GW334 := Aside0.mk (zq28); have GE334 := Aside0.mk (zq28); have NB332_334 := LB BK332 hg; have NB334_332 := MB BK332 hg; have NB333_334 := LB BK333 hg; have NB334_333 := MB BK333 hg; replace BK332 := KB BK332 hb; replace BK333 := KB BK333 hb; replace HB := Aside0.mk (below_step zq7 hb); clear hb hbox hg; have hnb62 := NB332_333.out; have hnc62 := NB333_332.out; have hnb63 := NB332_334.out; have hnc63 := NB334_332.out; obtain ⟨hcz64_0, hcz64_1, hcz64_2, hfz64_0, hfz64_1, hfz64_2⟩ := bL3 BK332; have hnb65 := NB333_334.out; have hnc65 := NB334_333.out; obtain ⟨hcz66_0, hcz66_1, hcz66_2, hfz66_0, hfz66_1, hfz66_2⟩ := bL3 BK333; obtain ⟨hcz67_0, hcz67_1, hcz67_2, hfz67_0, hfz67_1, hfz67_2⟩ := bL3 BK334))
      refine bodyPost_ret (results_ct rfl _ _ gb334 65 #[.int .i64 0, .int .i64 0, .string (⟨#[]⟩ : ByteArray)] (0, 0) _ rfl zq20 Tryz.underlying65 rfl zq17) rfl ?_; exact ⟨zq2, zq11⟩
    ·rw [if_neg c46] at H
     have c46b0 : (a0_0 == 6) = false := beq_eq_false_iff_ne.mpr c46; have c46b1 : (a0_0 != 6) = true := bne_iff_ne.mpr c46
     by_cases c68 : a2_0 = 1
     ·rw [if_pos c68] at H
      have c68b0 : (a2_0 == 1) = true := beq_iff_eq.mpr c68; have c68b1 : (a2_0 != 1) = false := bne_eq_false_iff_eq.mpr c68; clear c68
      by_cases c69 : a0_0 = 5
      ·rw [if_pos c69] at H
       have c69b0 : (a0_0 == 5) = true := beq_iff_eq.mpr c69; have c69b1 : (a0_0 != 5) = false := bne_eq_false_iff_eq.mpr c69; clear c69; replace H := Option.bind_eq_some_iff.mp H; obtain ⟨⟨t345, t346, t347, t348⟩, A700, H⟩ := H; replace H : (some (t345, t346, t347, t348)) = some (r1, r2, r3, r4) := H; have A70 := Aside0.mk A700; clear A700; simp only [Option.some.injEq, Prod.mk.injEq] at H; obtain ⟨rfl, rfl, rfl, rfl⟩ := H; go_enter Tryz.func159, Tryz.ntmps159
       go_wp2_with (first | (refine bZ 3 #[.int .i64 a0_0, .int .i64 a0_1, .string a0_2] 68 ?_; intro gb332 hg w71 hbox hb; have BK332 := Aside0.mk (hbox); have GW332 := GB HB hg; have GE332 := GW332; replace HB := BB HB hb; clear hb hbox hg) | (refine bZ 5 #[.int .i64 a2_0, .int .i64 a2_1, .string a2_2] 65 ?_; intro gb333 hg w72 hbox hb; have BK333 := Aside0.mk (hbox); have GW333 := Aside0.mk (zq27); have GE333 := Aside0.mk (zq27); have NB332_333 := LB BK332 hg; have NB333_332 := MB BK332 hg; replace BK332 := KB BK332 hb; replace HB := Aside0.mk (below_step zq9 hb); clear hb hbox hg) | (refine bZ 6 #[.int .i64 0, .int .i64 0, .string (⟨#[]⟩ : ByteArray)] 65 ?_; intro gb334 hg w73 hbox hb; have BK334 := Aside0.mk (hbox); have GW334 := Aside0.mk (zq28); have GE334 := Aside0.mk (zq28); have NB332_334 := LB BK332 hg; have NB334_332 := MB BK332 hg; have NB333_334 := LB BK333 hg; have NB334_333 := MB BK333 hg; replace BK332 := KB BK332 hb; replace BK333 := KB BK333 hb; replace HB := Aside0.mk (below_step zq7 hb); clear hb hbox hg; have hnb74 := NB332_333.out; have hnc74 := NB333_332.out; have hnb75 := NB332_334.out; have hnc75 := NB334_332.out; obtain ⟨hcz76_0, hcz76_1, hcz76_2, hfz76_0, hfz76_1, hfz76_2⟩ := bL3 BK332; have hnb77 := NB333_334.out; have hnc77 := NB334_333.out; obtain ⟨hcz78_0, hcz78_1, hcz78_2, hfz78_0, hfz78_1, hfz78_2⟩ := bL3 BK333) | (refine gZ 55 Tryz.func170 #[.bool (a2_1 == 0)] ?_; (with_reducible refine (r18_truth.calls (a2_1 == 0) t345 t346 t347 t348 _ A70.out).mono ?_); rintro e w79 ⟨rfl, hb⟩; refine ⟨_, rfl, ?_⟩; replace BK332 := KB BK332 hb; replace BK333 := KB BK333 hb; replace BK334 := KB BK334 hb; replace HB := Aside0.mk (below_step zq11 hb); (try clear hb); obtain ⟨hcz80_0, hcz80_1, hcz80_2, hfz80_0, hfz80_1, hfz80_2⟩ := bL3 BK334))
       refine bodyPost_ret (results_ct rfl _ _ gb334 65 #[.int .i64 t345, .int .i64 t346, .string t347] (0, 0) _ rfl (by (with_reducible repeat (first | refine blk_drewN ?_ _ | refine blk_drew ?_ | refine blk_alloc ?_ _)); refine blk_put (cs := #[.int .i64 t345, .int .i64 t346, .string (⟨#[]⟩ : ByteArray)]) ?_ 2 _ rfl; (with_reducible repeat (first | refine blk_drewN ?_ _ | refine blk_drew ?_ | refine blk_alloc ?_ _)); refine blk_put (cs := #[.int .i64 t345, .int .i64 0, .string (⟨#[]⟩ : ByteArray)]) ?_ 1 _ rfl; (with_reducible repeat (first | refine blk_drewN ?_ _ | refine blk_drew ?_ | refine blk_alloc ?_ _)); refine blk_put (cs := #[.int .i64 0, .int .i64 0, .string (⟨#[]⟩ : ByteArray)]) ?_ 0 _ rfl; (with_reducible repeat (first | refine blk_drewN ?_ _ | refine blk_drew ?_ | refine blk_alloc ?_ _)); exact BK334.out) Tryz.underlying65 rfl zq17) rfl ?_; exact ⟨zq2, zq11⟩
      ·rw [if_neg c69] at H
       have c69b0 : (a0_0 == 5) = false := beq_eq_false_iff_ne.mpr c69; have c69b1 : (a0_0 != 5) = true := bne_iff_ne.mpr c69; replace H := Option.bind_eq_some_iff.mp H; obtain ⟨⟨t349, t350⟩, A810, H⟩ := H; replace H : ((r18_number.f t349 t350).bind fun bt351 => (some (bt351.1, bt351.2.1, bt351.2.2.1, bt351.2.2.2))) = some (r1, r2, r3, r4) := H; have A81 := Aside0.mk A810; clear A810; replace H := Option.bind_eq_some_iff.mp H; obtain ⟨⟨t351, t352, t353, t354⟩, A820, H⟩ := H; replace H : (some (t351, t352, t353, t354)) = some (r1, r2, r3, r4) := H; have A82 := Aside0.mk A820; clear A820; simp only [Option.some.injEq, Prod.mk.injEq] at H; obtain ⟨rfl, rfl, rfl, rfl⟩ := H; go_enter Tryz.func159, Tryz.ntmps159
       go_wp2_with (first | (refine bZ 3 #[.int .i64 a0_0, .int .i64 a0_1, .string a0_2] 68 ?_; intro gb332 hg w83 hbox hb; have BK332 := Aside0.mk (hbox); have GW332 := GB HB hg; have GE332 := GW332; replace HB := BB HB hb; clear hb hbox hg) | (refine bZ 5 #[.int .i64 a2_0, .int .i64 a2_1, .string a2_2] 65 ?_; intro gb333 hg w84 hbox hb; have BK333 := Aside0.mk (hbox); have GW333 := Aside0.mk (zq27); have GE333 := Aside0.mk (zq27); have NB332_333 := LB BK332 hg; have NB333_332 := MB BK332 hg; replace BK332 := KB BK332 hb; replace HB := Aside0.mk (below_step zq9 hb); clear hb hbox hg) | (refine bZ 6 #[.int .i64 0, .int .i64 0, .string (⟨#[]⟩ : ByteArray)] 65 ?_; intro gb334 hg w85 hbox hb; have BK334 := Aside0.mk (hbox); have GW334 := Aside0.mk (zq28); have GE334 := Aside0.mk (zq28); have NB332_334 := LB BK332 hg; have NB334_332 := MB BK332 hg; have NB333_334 := LB BK333 hg; have NB334_333 := MB BK333 hg; replace BK332 := KB BK332 hb; replace BK333 := KB BK333 hb; replace HB := Aside0.mk (below_step zq7 hb); clear hb hbox hg; have hnb86 := NB332_333.out; have hnc86 := NB333_332.out; have hnb87 := NB332_334.out; have hnc87 := NB334_332.out; obtain ⟨hcz88_0, hcz88_1, hcz88_2, hfz88_0, hfz88_1, hfz88_2⟩ := bL3 BK332; have hnb89 := NB333_334.out; have hnc89 := NB334_333.out; obtain ⟨hcz90_0, hcz90_1, hcz90_2, hfz90_0, hfz90_1, hfz90_2⟩ := bL3 BK333) | (refine gZ 60 Tryz.func179 #[.int .i64 a2_1] ?_; (with_reducible refine (r01_Neg.calls a2_1 t349 t350 _ A81.out).mono ?_); rintro e w' ⟨rfl, ⟨nd, rfl⟩⟩; refine ⟨_, rfl, ?_⟩; (try (rw [drewN_self w85]; generalize hq_ : World.drewN w85 _ = w85; have n0_ : Aside0 (w85.heap[gb332]? = some (.cells #[.int .i64 a0_0, .int .i64 a0_1, .string a0_2] 68 (0, 0))) := ⟨by rw [← hq_]; exact (bQ BK332.out)⟩; have n1_ : Aside0 (w85.heap[gb333]? = some (.cells #[.int .i64 a2_0, .int .i64 a2_1, .string a2_2] 65 (0, 0))) := ⟨by rw [← hq_]; exact (bQ BK333.out)⟩; have n2_ : Aside0 (w85.heap[gb334]? = some (.cells #[.int .i64 0, .int .i64 0, .string (⟨#[]⟩ : ByteArray)] 65 (0, 0))) := ⟨by rw [← hq_]; exact (bQ BK334.out)⟩; have n3_ : Aside0 (Below w.heap.size w w85) := ⟨by rw [← hq_]; exact zq11⟩; clear BK332 BK333 BK334 HB hq_; have BK332 := n0_; have BK333 := n1_; have BK334 := n2_; have HB := n3_; clear n0_ n1_ n2_ n3_))) | (refine gZ 63 Tryz.func172 #[.int .i64 t349, .int .i64 t350] ?_; (with_reducible refine (r18_number.calls t349 t350 t351 t352 t353 t354 _ A82.out).mono ?_); rintro e w91 ⟨rfl, hb⟩; refine ⟨_, rfl, ?_⟩; replace BK332 := KB BK332 hb; replace BK333 := KB BK333 hb; replace BK334 := KB BK334 hb; replace HB := Aside0.mk (below_step zq11 hb); (try clear hb); obtain ⟨hcz92_0, hcz92_1, hcz92_2, hfz92_0, hfz92_1, hfz92_2⟩ := bL3 BK334))
       refine bodyPost_ret (results_ct rfl _ _ gb334 65 #[.int .i64 t351, .int .i64 t352, .string t353] (0, 0) _ rfl (by (with_reducible repeat (first | refine blk_drewN ?_ _ | refine blk_drew ?_ | refine blk_alloc ?_ _)); refine blk_put (cs := #[.int .i64 t351, .int .i64 t352, .string (⟨#[]⟩ : ByteArray)]) ?_ 2 _ rfl; (with_reducible repeat (first | refine blk_drewN ?_ _ | refine blk_drew ?_ | refine blk_alloc ?_ _)); refine blk_put (cs := #[.int .i64 t351, .int .i64 0, .string (⟨#[]⟩ : ByteArray)]) ?_ 1 _ rfl; (with_reducible repeat (first | refine blk_drewN ?_ _ | refine blk_drew ?_ | refine blk_alloc ?_ _)); refine blk_put (cs := #[.int .i64 0, .int .i64 0, .string (⟨#[]⟩ : ByteArray)]) ?_ 0 _ rfl; (with_reducible repeat (first | refine blk_drewN ?_ _ | refine blk_drew ?_ | refine blk_alloc ?_ _)); exact BK334.out) Tryz.underlying65 rfl zq17) rfl ?_; exact ⟨zq2, zq11⟩
     ·rw [if_neg c68] at H
      have c68b0 : (a2_0 == 1) = false := beq_eq_false_iff_ne.mpr c68; have c68b1 : (a2_0 != 1) = true := bne_iff_ne.mpr c68; simp only [Option.some.injEq, Prod.mk.injEq] at H; obtain ⟨rfl, rfl, rfl, rfl⟩ := H; go_enter Tryz.func159, Tryz.ntmps159
      go_wp2_with (first | (refine bZ 3 #[.int .i64 a0_0, .int .i64 a0_1, .string a0_2] 68 ?_; intro gb332 hg w93 hbox hb; have BK332 := Aside0.mk (hbox); have GW332 := GB HB hg; have GE332 := GW332; replace HB := BB HB hb; clear hb hbox hg) | (refine bZ 5 #[.int .i64 a2_0, .int .i64 a2_1, .string a2_2] 65 ?_; intro gb333 hg w94 hbox hb; have BK333 := Aside0.mk (hbox); have GW333 := Aside0.mk (zq27); have GE333 := Aside0.mk (zq27); have NB332_333 := LB BK332 hg; have NB333_332 := MB BK332 hg; replace BK332 := KB BK332 hb; replace HB := Aside0.mk (below_step zq9 hb); clear hb hbox hg) | (refine bZ 6 #[.int .i64 0, .int .i64 0, .string (⟨#[]⟩ : ByteArray)] 65 ?_; intro gb334 hg w95 hbox hb; have BK334 := Aside0.mk (hbox); have GW334 := Aside0.mk (zq28); have GE334 := Aside0.mk (zq28); have NB332_334 := LB BK332 hg; have NB334_332 := MB BK332 hg; have NB333_334 := LB BK333 hg; have NB334_333 := MB BK333 hg; replace BK332 := KB BK332 hb; replace BK333 := KB BK333 hb; replace HB := Aside0.mk (below_step zq7 hb); clear hb hbox hg; have hnb96 := NB332_333.out; have hnc96 := NB333_332.out; have hnb97 := NB332_334.out; have hnc97 := NB334_332.out; obtain ⟨hcz98_0, hcz98_1, hcz98_2, hfz98_0, hfz98_1, hfz98_2⟩ := bL3 BK332; have hnb99 := NB333_334.out; have hnc99 := NB334_333.out; obtain ⟨hcz100_0, hcz100_1, hcz100_2, hfz100_0, hfz100_1, hfz100_2⟩ := bL3 BK333; obtain ⟨hcz101_0, hcz101_1, hcz101_2, hfz101_0, hfz101_1, hfz101_2⟩ := bL3 BK334))
      refine bodyPost_ret (results_ct rfl _ _ gb334 65 #[.int .i64 0, .int .i64 0, .string (⟨#[]⟩ : ByteArray)] (0, 0) _ rfl zq20 Tryz.underlying65 rfl zq17) rfl ?_; exact ⟨zq2, zq11⟩
end Go.Proofs.YtmkgecapkeojaaaGreat.PDa
end
