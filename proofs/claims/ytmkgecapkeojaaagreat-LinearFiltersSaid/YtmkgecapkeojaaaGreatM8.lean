/- Texts of this claim, put together by a program: PDax15. -/
import Derived.Test.YtmkgecapkeojaaaGreatM7
set_option linter.unusedVariables false
set_option linter.unusedSimpArgs false
set_option maxHeartbeats 8000000
set_option maxRecDepth 100000
section
namespace Go.Proofs.YtmkgecapkeojaaaGreat.PDa
open Go.RowKit Go.Proofs.YtmkgecapkeojaaaGreatW.PrintWords Go.Proofs.YtmkgecapkeojaaaGreatW.PrintLast Go.Proofs.YtmkgecapkeojaaaGreatW.PrintMore
attribute [local go_sem] max2_int min2_int max_two min_two max_three min_three max_four min_four
def r17_Parts.l0 : Nat → List (S68) → List (List (S68)) → List (S68) → Int → Option ((List (List (S68))))
 | 0, _, _, _, _ => none
 | k + 1, x0, x3, x4, x5 => if 0 ≤ (wrap64 ((x0.length : Int) - 1)) then (if (wrap64 ((x0.length : Int) - 1)) < (x0.length : Int) then ((r17_Takes.f k ((rd_T68 x0 (wrap64 ((x0.length : Int) - 1))).f0)).bind fun t293 => (if x5 < t293 then ((r17_Tail.f k x4).bind fun t294 => ((some (([] : List (S68)) : List (S68))).bind fun y295 => (if 0 ≤ (wrap64 ((x4.length : Int) - t294)) then (if (wrap64 ((x4.length : Int) - t294)) ≤ (x4.length : Int) then ((some (x4.drop ((wrap64 ((x4.length : Int) - t294)) : Int).toNat : List (S68))).bind fun y298 => (if y295.length + y298.length < 4398046511104 then ((some (([(y295 ++ y298)] : List (List (S68))) : List (List (S68)))).bind fun y306 => (if y306.length + x3.length < 5864062014805 then (r17_Parts.l0 k x0 (y306 ++ x3) (x4.take ((wrap64 ((x4.length : Int) - t294)) : Int).toNat) (wrap64 (x5 + 1))) else (none))) else (none))) else (none)) else (none)))) else (some x3))) else (none)) else (none)
def r17_Parts.f (k : Nat) (l0 : List (S68)) : Option ((List (List (S68)))) := if 0 ≤ (wrap64 ((l0.length : Int) - 1)) then (if (wrap64 ((l0.length : Int) - 1)) ≤ (l0.length : Int) then (r17_Parts.l0 k l0 (([] : List (List (S68)))) (l0.take ((wrap64 ((l0.length : Int) - 1)) : Int).toNat) 0) else (none)) else (none)
theorem r17_Parts.calls (k : Nat) (P0_ : Nat → Prop) (A0 : Option Addr) (c0 : Nat) (l0 : List (S68)) (r : List (List (S68))) (w : World) (hs0 : Kd.V k68 68 w w.heap.size (fun k_ => P0_ k_) (.slice A0 l0.length c0) l0) (h : r17_Parts.f k l0 = some r) :
  Calls Tryz.prog 157 #[.slice A0 l0.length c0] w fun e w' => ∃ v0_ : Value, e = .returned (v0_) ∧ Kd.N (Kd.slice 68 k68) 24 w' w.heap.size (fun k_ => (P0_ k_ ∨ w.heap.size ≤ k_)) v0_ r ∧ Below w.heap.size w w' := by
 have HO0 := Aside0.mk (show Kd.V k68 68 w w.heap.size (fun k_ => (P0_ k_ ∨ w.heap.size ≤ k_)) (.slice A0 l0.length c0) l0 from Kd.V_mono hs0 (fun k_ hk => .inl hk)); have HB := Aside0.mk (Below.refl w.heap.size w); have H : (if 0 ≤ (wrap64 ((l0.length : Int) - 1)) then (if (wrap64 ((l0.length : Int) - 1)) ≤ (l0.length : Int) then (r17_Parts.l0 k l0 (([] : List (List (S68)))) (l0.take ((wrap64 ((l0.length : Int) - 1)) : Int).toNat) 0) else (none)) else (none)) = some r := h; clear h; obtain ⟨y284, hy284⟩ : ∃ y_ : List (List (S68)), y_ = (([] : List (List (S68)))) := ⟨_, rfl⟩
 replace H : (if 0 ≤ (wrap64 ((l0.length : Int) - 1)) then (if (wrap64 ((l0.length : Int) - 1)) ≤ (l0.length : Int) then (r17_Parts.l0 k l0 y284 (l0.take ((wrap64 ((l0.length : Int) - 1)) : Int).toNat) 0) else (none)) else (none)) = some r := by first | (rw [hy284]; with_reducible exact H) | (have H2_ := (Option.bind_some _ _).symm.trans H; rw [hy284]; with_reducible exact H2_) | (have H2_ := (Option.bind_some _ _).symm.trans H; with_reducible exact H2_) | with_reducible exact H | (rw [hy284]; exact H) | exact H
 have Ny284 := Aside0.mk hy284; clear hy284; obtain ⟨ji2, hji2⟩ : ∃ j_ : Int, (wrap64 ((l0.length : Int) - 1)) = j_ := ⟨_, rfl⟩
 replace H : (if 0 ≤ (ji2) then (if (ji2) ≤ (l0.length : Int) then (r17_Parts.l0 k l0 y284 (l0.take ((ji2) : Int).toNat) 0) else (none)) else (none)) = some r := by first | (rw [hji2] at H; exact H) | (simp only [hji2] at H ⊢; exact H)
 have hji2w : (IntKind.i64.wrap ((l0.length : Int) - 1)) = ji2 := (i64_w _).trans hji2
 by_cases c3 : 0 ≤ (ji2)
 ·rw [if_pos c3] at H
  have c3b0 := eq_true c3; have c3b1 : decide (0 ≤ (ji2)) = true := decide_eq_true c3; clear c3
  by_cases c4 : (ji2) ≤ (l0.length : Int)
  ·rw [if_pos c4] at H
   have c4b0 := eq_true c4; have c4b1 : decide ((ji2) ≤ (l0.length : Int)) = true := decide_eq_true c4; clear c4; obtain ⟨y287, hy287⟩ : ∃ y_ : List (S68), y_ = (l0.take ((ji2) : Int).toNat) := ⟨_, rfl⟩
   replace H : (r17_Parts.l0 k l0 y284 y287 0) = some r := by first | (rw [hy287]; with_reducible exact H) | (have H2_ := (Option.bind_some _ _).symm.trans H; rw [hy287]; with_reducible exact H2_) | (have H2_ := (Option.bind_some _ _).symm.trans H; with_reducible exact H2_) | with_reducible exact H | (rw [hy287]; exact H) | exact H
   have Ny287 := Aside0.mk hy287; clear hy287; have H' := Aside0.mk H; clear H; go_enter Tryz.func157, Tryz.ntmps157
   go_wp2_with (first | ((with_reducible refine gate_dst (N := 7) rfl ?_); refine Kd.N_lit (Kd.slice 68 k68) _ 24 ?hg (N' := 7) ?hd (xs := ([] : List (List (S68)))) (inner := []) (ok := (fun k_ => (P0_ k_ ∨ w.heap.size ≤ k_))) (okp := (fun k_ => (P0_ k_ ∨ w.heap.size ≤ k_))) ?hr ?hp (fun _ hk => hk) ((show ∀ k_, w.heap.size ≤ k_ → (fun k_ => (P0_ k_ ∨ w.heap.size ≤ k_)) k_ from fun k_ hk => (.inr (Nat.le_trans (below_size zq0) hk))) _ (Nat.le_refl _)) (Below.refl _ _) (Nat.le_refl _) zq30 ?_; (case hd => rfl); (case hg => rfl); (case hr => first | (go_simp; done) | (go_simp; rfl)); (case hp => exact (Reps.none _ _)); intro v285 w5 ho6 hb hg_ hnew_; clear hg_ hnew_; (first | rw [← Ny284.out] at ho6 | (simp only [Int.reduceToNat] at ho6; rw [← Ny284.out] at ho6)); have HO286 := Aside0.mk (Kd.N_lower ho6 (below_size zq0)); replace HO0 := Aside0.mk (Kd.V_elder' (vQ HO0.out) (Kd.N_base ho6) hb); replace HB := BB HB hb; clear hb ho6; have q7 : ((ji2) : Int) ≤ ((l0.length : Int) : Int) := of_decide_eq_true zq1; obtain ⟨i07, hi07, _, hsz7, _⟩ := info_parts info68; have hroom7 : l0.length ≤ c0 := (Kd.V_reads' HO0.out).2.1; have hC7 : Kd.F k68 _ _ A0 l0.length l0 := (Kd.V_at (base := w.heap.size) HO0.out).2.2; have hcut7 := cut_to (P := Tryz.prog) 24 68 .i64 Tryz.underlying24 hi07 A0 l0.length c0 (ji2) (of_decide_eq_true zq1) q7 hroom7; have hr7 := Kd.F_take (m := ((ji2) : Int).toNat) hC7 zq4; have hy7 : y287.length = ((ji2) : Int).toNat := (by rw [Ny287.out, List.length_take]; omega); rw [← Ny287.out] at hr7; rw [← hy7] at hcut7; have HO291 := Aside0.mk (show Kd.V k68 68 _ w.heap.size _ (.slice A0 y287.length c0) y287 from Kd.V_mk zq4 hr7); have HC291 := Aside0.mk (show y287.length ≤ c0 from by omega); clear hr7 hC7 hroom7 hi07 hsz7; have KY7 := Aside0.mk hy7; clear hy7; replace q7 := eq_true q7))
   go_loopg [3, 4, 5] k (fun kq v3 v4 v5 w' => ∃ (x3_1 : List (List (S68))) (x4_1 : List (S68)) (x5_1 : Int), v5 = .int .i64 x5_1 ∧ Aside0 (r17_Parts.l0 kq l0 x3_1 x4_1 x5_1 = some r) ∧ Aside0 (kq ≤ k) ∧ Aside0 (Kd.V k68 68 w' w.heap.size (fun k_ => (P0_ k_ ∨ w.heap.size ≤ k_) ∧ some k_ ≠ (v3 : Value).ownBlock) (.slice A0 l0.length c0) l0) ∧ Aside0 (Kd.N (Kd.slice 68 k68) 24 w' w.heap.size (fun k_ => (P0_ k_ ∨ w.heap.size ≤ k_)) v3 x3_1) ∧ Aside0 (Kd.V k68 68 w' w.heap.size (fun k_ => (P0_ k_ ∨ w.heap.size ≤ k_) ∧ some k_ ≠ (v3 : Value).ownBlock) v4 x4_1) ∧ Aside0 (Below w.heap.size w w'))
   case atStart => exact ⟨(y284), (y287), (0), zq3, H', ⟨Nat.le_refl _⟩, ⟨zq80⟩, ⟨(by (with_reducible repeat (first | apply Kd.N_alloc | apply Kd.N_drewN | apply Kd.N_drew)); exact HO286.out)⟩, ⟨(by (with_reducible repeat (first | apply Kd.V_alloc | apply Kd.V_drewN | apply Kd.V_drew)); exact HO291.out)⟩, ⟨zq0⟩⟩
   case round =>
    clear H'
    try clear c1
    try clear p2
    try clear c3
    try clear c3b0
    try clear c3b1
    try clear c4
    try clear c4b0
    try clear c4b1
    try clear p6
    try clear q7
    try clear q7
    try clear hji2w
    try clear hji2
    obtain ⟨x3_1, x4_1, x5_1, rfl, HA, HK1, HO_0, HO_3, HO_4, HB⟩ := hrel; cases gk with
    | zero => exact absurd HA.out (by simp [r17_Parts.l0])
    | succ k1 =>
     have H := HA.out; clear HA; simp only [r17_Parts.l0] at H; obtain ⟨ji8, hji8⟩ : ∃ j_ : Int, (wrap64 ((l0.length : Int) - 1)) = j_ := ⟨_, rfl⟩
     replace H : (if 0 ≤ (ji8) then (if (ji8) < (l0.length : Int) then ((r17_Takes.f k1 ((rd_T68 l0 (ji8)).f0)).bind fun t293 => (if x5_1 < t293 then ((r17_Tail.f k1 x4_1).bind fun t294 => ((some (([] : List (S68)) : List (S68))).bind fun y295 => (if 0 ≤ (wrap64 ((x4_1.length : Int) - t294)) then (if (wrap64 ((x4_1.length : Int) - t294)) ≤ (x4_1.length : Int) then ((some (x4_1.drop ((wrap64 ((x4_1.length : Int) - t294)) : Int).toNat : List (S68))).bind fun y298 => (if y295.length + y298.length < 4398046511104 then ((some (([(y295 ++ y298)] : List (List (S68))) : List (List (S68)))).bind fun y306 => (if y306.length + x3_1.length < 5864062014805 then (r17_Parts.l0 k1 l0 (y306 ++ x3_1) (x4_1.take ((wrap64 ((x4_1.length : Int) - t294)) : Int).toNat) (wrap64 (x5_1 + 1))) else (none))) else (none))) else (none)) else (none)))) else (some x3_1))) else (none)) else (none)) = some r := by first | (rw [hji8] at H; exact H) | (simp only [hji8] at H ⊢; exact H)
     have hji8w : (IntKind.i64.wrap ((l0.length : Int) - 1)) = ji8 := (i64_w _).trans hji8
     by_cases c9 : 0 ≤ (ji8)
     ·rw [if_pos c9] at H
      have c9b0 : decide (0 ≤ (ji8)) = true := decide_eq_true c9; clear c9
      by_cases c10 : (ji8) < (l0.length : Int)
      ·rw [if_pos c10] at H
       have c10b0 : decide ((ji8) < (l0.length : Int)) = true := decide_eq_true c10; clear c10; replace H := Option.bind_eq_some_iff.mp H; obtain ⟨t293, A110, H⟩ := H; replace H : (if x5_1 < t293 then ((r17_Tail.f k1 x4_1).bind fun t294 => ((some (([] : List (S68)) : List (S68))).bind fun y295 => (if 0 ≤ (wrap64 ((x4_1.length : Int) - t294)) then (if (wrap64 ((x4_1.length : Int) - t294)) ≤ (x4_1.length : Int) then ((some (x4_1.drop ((wrap64 ((x4_1.length : Int) - t294)) : Int).toNat : List (S68))).bind fun y298 => (if y295.length + y298.length < 4398046511104 then ((some (([(y295 ++ y298)] : List (List (S68))) : List (List (S68)))).bind fun y306 => (if y306.length + x3_1.length < 5864062014805 then (r17_Parts.l0 k1 l0 (y306 ++ x3_1) (x4_1.take ((wrap64 ((x4_1.length : Int) - t294)) : Int).toNat) (wrap64 (x5_1 + 1))) else (none))) else (none))) else (none)) else (none)))) else (some x3_1)) = some r := H; have A11 := Aside0.mk A110; clear A110
       by_cases c12 : x5_1 < t293
       ·rw [if_pos c12] at H
        have c12b0 : decide (x5_1 < t293) = true := decide_eq_true c12; clear c12; replace H := Option.bind_eq_some_iff.mp H; obtain ⟨t294, A130, H⟩ := H; replace H : ((some (([] : List (S68)) : List (S68))).bind fun y295 => (if 0 ≤ (wrap64 ((x4_1.length : Int) - t294)) then (if (wrap64 ((x4_1.length : Int) - t294)) ≤ (x4_1.length : Int) then ((some (x4_1.drop ((wrap64 ((x4_1.length : Int) - t294)) : Int).toNat : List (S68))).bind fun y298 => (if y295.length + y298.length < 4398046511104 then ((some (([(y295 ++ y298)] : List (List (S68))) : List (List (S68)))).bind fun y306 => (if y306.length + x3_1.length < 5864062014805 then (r17_Parts.l0 k1 l0 (y306 ++ x3_1) (x4_1.take ((wrap64 ((x4_1.length : Int) - t294)) : Int).toNat) (wrap64 (x5_1 + 1))) else (none))) else (none))) else (none)) else (none))) = some r := H; have A13 := Aside0.mk A130; clear A130; obtain ⟨y295, hy295⟩ : ∃ y_ : List (S68), y_ = (([] : List (S68))) := ⟨_, rfl⟩
        replace H : (if 0 ≤ (wrap64 ((x4_1.length : Int) - t294)) then (if (wrap64 ((x4_1.length : Int) - t294)) ≤ (x4_1.length : Int) then ((some (x4_1.drop ((wrap64 ((x4_1.length : Int) - t294)) : Int).toNat : List (S68))).bind fun y298 => (if y295.length + y298.length < 4398046511104 then ((some (([(y295 ++ y298)] : List (List (S68))) : List (List (S68)))).bind fun y306 => (if y306.length + x3_1.length < 5864062014805 then (r17_Parts.l0 k1 l0 (y306 ++ x3_1) (x4_1.take ((wrap64 ((x4_1.length : Int) - t294)) : Int).toNat) (wrap64 (x5_1 + 1))) else (none))) else (none))) else (none)) else (none)) = some r := by first | (rw [hy295]; with_reducible exact H) | (have H2_ := (Option.bind_some _ _).symm.trans H; rw [hy295]; with_reducible exact H2_) | (have H2_ := (Option.bind_some _ _).symm.trans H; with_reducible exact H2_) | with_reducible exact H | (rw [hy295]; exact H) | exact H
        have Ny295 := Aside0.mk hy295; clear hy295; obtain ⟨ji14, hji14⟩ : ∃ j_ : Int, (wrap64 ((x4_1.length : Int) - t294)) = j_ := ⟨_, rfl⟩
        replace H : (if 0 ≤ (ji14) then (if (ji14) ≤ (x4_1.length : Int) then ((some (x4_1.drop ((ji14) : Int).toNat : List (S68))).bind fun y298 => (if y295.length + y298.length < 4398046511104 then ((some (([(y295 ++ y298)] : List (List (S68))) : List (List (S68)))).bind fun y306 => (if y306.length + x3_1.length < 5864062014805 then (r17_Parts.l0 k1 l0 (y306 ++ x3_1) (x4_1.take ((ji14) : Int).toNat) (wrap64 (x5_1 + 1))) else (none))) else (none))) else (none)) else (none)) = some r := by first | (rw [hji14] at H; exact H) | (simp only [hji14] at H ⊢; exact H)
        (try rw [hji14] at A11)
        (try rw [hji14] at A13)
        have hji14w : (IntKind.i64.wrap ((x4_1.length : Int) - t294)) = ji14 := (i64_w _).trans hji14
        by_cases c15 : 0 ≤ (ji14)
        ·rw [if_pos c15] at H
         have c15b0 := eq_true c15; have c15b1 : decide (0 ≤ (ji14)) = true := decide_eq_true c15; clear c15
         by_cases c16 : (ji14) ≤ (x4_1.length : Int)
         ·rw [if_pos c16] at H
          have c16b0 := eq_true c16; have c16b1 : decide ((ji14) ≤ (x4_1.length : Int)) = true := decide_eq_true c16; clear c16; obtain ⟨y298, hy298⟩ : ∃ y_ : List (S68), y_ = (x4_1.drop ((ji14) : Int).toNat) := ⟨_, rfl⟩
          replace H : (if y295.length + y298.length < 4398046511104 then ((some (([(y295 ++ y298)] : List (List (S68))) : List (List (S68)))).bind fun y306 => (if y306.length + x3_1.length < 5864062014805 then (r17_Parts.l0 k1 l0 (y306 ++ x3_1) (x4_1.take ((ji14) : Int).toNat) (wrap64 (x5_1 + 1))) else (none))) else (none)) = some r := by first | (rw [hy298]; with_reducible exact H) | (have H2_ := (Option.bind_some _ _).symm.trans H; rw [hy298]; with_reducible exact H2_) | (have H2_ := (Option.bind_some _ _).symm.trans H; with_reducible exact H2_) | with_reducible exact H | (rw [hy298]; exact H) | exact H
          have Ny298 := Aside0.mk hy298; clear hy298
          by_cases c17 : y295.length + y298.length < 4398046511104
          ·rw [if_pos c17] at H
           have LMc17 := Aside0.mk c17; clear c17; obtain ⟨y303, hy303⟩ : ∃ y_ : List (S68), y_ = (y295 ++ y298) := ⟨_, rfl⟩
           replace H : ((some (([y303] : List (List (S68))) : List (List (S68)))).bind fun y306 => (if y306.length + x3_1.length < 5864062014805 then (r17_Parts.l0 k1 l0 (y306 ++ x3_1) (x4_1.take ((ji14) : Int).toNat) (wrap64 (x5_1 + 1))) else (none))) = some r := by first | (rw [hy303]; with_reducible exact H) | (have H2_ := (Option.bind_some _ _).symm.trans H; rw [hy303]; with_reducible exact H2_) | (have H2_ := (Option.bind_some _ _).symm.trans H; with_reducible exact H2_) | with_reducible exact H | (rw [hy303]; exact H) | exact H
           have Ny303 := Aside0.mk hy303; clear hy303; obtain ⟨y306, hy306⟩ : ∃ y_ : List (List (S68)), y_ = (([y303] : List (List (S68)))) := ⟨_, rfl⟩
           replace H : (if y306.length + x3_1.length < 5864062014805 then (r17_Parts.l0 k1 l0 (y306 ++ x3_1) (x4_1.take ((ji14) : Int).toNat) (wrap64 (x5_1 + 1))) else (none)) = some r := by first | (rw [hy306]; with_reducible exact H) | (have H2_ := (Option.bind_some _ _).symm.trans H; rw [hy306]; with_reducible exact H2_) | (have H2_ := (Option.bind_some _ _).symm.trans H; with_reducible exact H2_) | with_reducible exact H | (rw [hy306]; exact H) | exact H
           have Ny306 := Aside0.mk hy306; clear hy306
           by_cases c18 : y306.length + x3_1.length < 5864062014805
           ·rw [if_pos c18] at H
            have LMc18 := Aside0.mk c18; clear c18; obtain ⟨y309, hy309⟩ : ∃ y_ : List (List (S68)), y_ = (y306 ++ x3_1) := ⟨_, rfl⟩
            replace H : (r17_Parts.l0 k1 l0 y309 (x4_1.take ((ji14) : Int).toNat) (wrap64 (x5_1 + 1))) = some r := by first | (rw [hy309]; with_reducible exact H) | (have H2_ := (Option.bind_some _ _).symm.trans H; rw [hy309]; with_reducible exact H2_) | (have H2_ := (Option.bind_some _ _).symm.trans H; with_reducible exact H2_) | with_reducible exact H | (rw [hy309]; exact H) | exact H
            have Ny309 := Aside0.mk hy309; clear hy309; have c19b0 := eq_true (of_decide_eq_true zq1 : 0 ≤ (ji14)); have c20b0 := eq_true (of_decide_eq_true zq1 : (ji14) ≤ (x4_1.length : Int)); obtain ⟨y312, hy312⟩ : ∃ y_ : List (S68), y_ = (x4_1.take ((ji14) : Int).toNat) := ⟨_, rfl⟩
            replace H : (r17_Parts.l0 k1 l0 y309 y312 (wrap64 (x5_1 + 1))) = some r := by first | (rw [hy312]; with_reducible exact H) | (have H2_ := (Option.bind_some _ _).symm.trans H; rw [hy312]; with_reducible exact H2_) | (have H2_ := (Option.bind_some _ _).symm.trans H; with_reducible exact H2_) | with_reducible exact H | (rw [hy312]; exact H) | exact H
            have Ny312 := Aside0.mk hy312; clear hy312; have H' := Aside0.mk H; clear H; have p292 : 0 ≤ ((ji8) : Int) := of_decide_eq_true zq1; have q292 : (ji8) < (l0.length : Int) := of_decide_eq_true zq1; obtain ⟨ad292, e292, hx292_0, hx292_1, hx292_2⟩ := at_T68 (Kd.V_reads' HO_0.out).2.2 (ji8) p292 q292; cases e292; replace p292 := eq_true p292; replace q292 := eq_true q292
            go_wp2_with (first | ((with_reducible refine gate_callee (f := 130) rfl ?_); refine goesL_ (some 21) rfl rfl Tryz.func130 zq17 rfl #[.int .i64 ((rd_T68 l0 (ji8)).f0)] rfl (by (try simp only [List.map_toArray, List.map_cons, List.map_nil]); first | done | (simp only [hji8]; rfl) | rfl | (simp only [List.length_drop, List.length_take]; rfl)) ?_; (with_reducible refine (r17_Takes.calls k1 ((rd_T68 l0 (ji8)).f0) t293 _ A11.out).mono ?_); rintro e w' ⟨rfl, ⟨nd, rfl⟩⟩; refine ⟨_, rfl, ?_⟩; obtain ⟨Ao21, co21, eo21⟩ := Kd.V_slice HO_4.out; subst eo21) | (refine gZ 26 Tryz.func88 #[.slice Ao21 x4_1.length co21] ?_; (with_reducible refine (r17_Tail.calls k1 _ _ x4_1 t294 _ ?side1 ?side2 A13.out).mono ?_); (case side1 => repeat (first | exact (Kd.V_reads' HO_4.out).2.2 | (with_reducible refine Kd.C_alloc ?_ _) | (with_reducible refine Kd.C_drewN ?_ _) | (with_reducible refine Kd.C_drew ?_))); (case side2 => exact (Kd.V_reads' HO_4.out).2.1); rintro e w22 ⟨rfl, hb⟩; refine ⟨_, rfl, ?_⟩; replace HO_0 := VB HO_0 hb; replace HO_3 := NB HO_3 hb; replace HO_4 := VB HO_4 hb; replace HB := BB HB hb; (try clear hb)) | ((with_reducible refine gate_dst (N := 27) rfl ?_); refine Kd.R_lit k68 _ 68 ?hg (N := 27) ?hd (xs := ([] : List (S68))) (inner := []) (ok := fun _ => True) (okp := fun _ => True) ?hr ?hp (fun _ hk => hk) trivial (Below.refl _ _) (Nat.le_refl _) zq30 ?_; (case hd => rfl); (case hg => rfl); (case hr => first | (go_simp; done) | (go_simp; rfl)); (case hp => exact (Reps.none _ _)); intro v296 w23 ho24 hb hg_ hnew_; clear hg_ hnew_; (first | rw [← Ny295.out] at ho24 | (simp only [Int.reduceToNat] at ho24; rw [← Ny295.out] at ho24)); have HO297 := Aside0.mk (Kd.R_lower (Kd.R_newM (M := fun k_ => (w.heap.size ≤ k_)) ho24 (below_size zq0) (fun k_ h_ => h_)) (below_size zq0)); replace HO_0 := Aside0.mk (Kd.V_elder' (vQ HO_0.out) (Kd.R_base ho24) hb); replace HO_3 := Aside0.mk (Kd.N_elder' (nQ HO_3.out) (Kd.R_base ho24) hb); replace HO_4 := Aside0.mk (Kd.V_elder' (vQ HO_4.out) (Kd.R_base ho24) hb); replace HB := BB HB hb; clear hb ho24; have q25 : ((ji14) : Int) ≤ ((x4_1.length : Int) : Int) := of_decide_eq_true zq1; obtain ⟨i025, hi025, _, hsz25, _⟩ := info_parts info68; have hroom25 : x4_1.length ≤ co21 := (Kd.V_reads' HO_4.out).2.1; have hC25 : Kd.F k68 _ _ Ao21 x4_1.length x4_1 := (Kd.V_at (base := w.heap.size) HO_4.out).2.2; have q025 : (0 : Int) ≤ ((ji14) : Int) := of_decide_eq_true zq1; have hcut25 := cut_from (P := Tryz.prog) 24 68 .i64 Tryz.underlying24 hi025 3 hsz25 Ao21 x4_1.length co21 (ji14) q025 q25; have hr25 := Kd.F_cut (m := ((ji14) : Int).toNat) (c := co21) hC25 zq4 hroom25; obtain ⟨A25, hA25⟩ : ∃ A1, A1 = (if co21 = ((ji14) : Int).toNat then Ao21 else (Ao21 : Option Addr).map (·.add (((ji14) : Int).toNat * 3))) := ⟨_, rfl⟩; obtain ⟨c25, hc25⟩ : ∃ c1, c1 = co21 - ((ji14) : Int).toNat := ⟨_, rfl⟩; have hy25 : y298.length = x4_1.length - ((ji14) : Int).toNat := (by rw [Ny298.out, List.length_drop] <;> omega); rw [show (x4_1).drop ((ji14) : Int).toNat = y298 from Ny298.out.symm] at hr25; replace hr25 : Kd.F k68 _ _ A25 y298.length y298 := (by rw [hA25]; exact hr25); rw [← hy25, ← hA25, ← hc25] at hcut25; have HO302 := Aside0.mk (show Kd.V k68 68 _ w.heap.size _ (.slice A25 y298.length c25) y298 from Kd.V_mk (by rw [hy25, hc25]; exact Nat.sub_le_sub_right hroom25 _) hr25); have HC302 := Aside0.mk (show y298.length ≤ c25 from by rw [hy25, hc25]; exact Nat.sub_le_sub_right hroom25 _); clear hr25 hC25 hroom25 hi025 hsz25 hc25; have KY25 := Aside0.mk hy25; have KA25 := Aside0.mk hA25; clear hy25 hA25; replace q25 := eq_true q25) | ((with_reducible refine gate_builtin (b := .append) (xs := #[.tmp 27, .tmp 33]) rfl ?_); at_builtin; refine Kd.R_append_rows k68 (w0 := w) w.heap.size rfl (.tmp 27) (.tmp 33) 24 68 (.agg #[(.int .i64 0), (.int .i64 0), (.string ⟨#[]⟩)]) 32 rfl Tryz.underlying24 info68 rfl zq34 zq4 v296 y295 y298 _ _ _ (fun k_ => (w.heap.size ≤ k_)) (fun _ => False) rfl rfl ?aO ?aR (fun _ _ h => h) (fun _ h => h.elim) ?aF ?aB ?aS ?aL ?_; (case aR => repeat (first | exact (Kd.V_reads' HO302.out).2.2 | (with_reducible refine Kd.C_alloc ?_ _) | (with_reducible refine Kd.C_drewN ?_ _) | (with_reducible refine Kd.C_drew ?_))); (case aB => exact zq0); (case aF => exact (fun k_ hk => (Nat.le_trans (below_size zq0) hk))); (case aO => exact (by (with_reducible repeat (first | apply Kd.R_alloc | apply Kd.R_drewN | apply Kd.R_drew)); exact Kd.R_mono HO297.out (fun _ hk => hk.1))); (case aS => exact (below_size zq0)); (case aL => have := LMc17.out; omega); intro v304 w26 ho hb hg hat; rw [← Ny303.out] at ho; have HO305 := Aside0.mk (ho); replace HO_0 := Aside0.mk (Kd.V_afterv (ok := (fun k_ => (P0_ k_ ∨ w.heap.size ≤ k_) ∧ some k_ ≠ (u3 : Value).ownBlock)) (vQ HO_0.out) hg hat); replace HO_3 := Aside0.mk (Kd.N_afterv (ok := (fun k_ => (P0_ k_ ∨ w.heap.size ≤ k_))) (nQ HO_3.out) hg hat); replace HO_4 := Aside0.mk (Kd.V_afterv (ok := (fun k_ => (P0_ k_ ∨ w.heap.size ≤ k_) ∧ some k_ ≠ (u3 : Value).ownBlock)) (vQ HO_4.out) hg hat); replace HO302 := Aside0.mk (Kd.V_afterv (ok := (fun k_ => (P0_ k_ ∨ w.heap.size ≤ k_) ∧ some k_ ≠ (u3 : Value).ownBlock)) (vQ HO302.out) hg hat); replace HB := Aside0.mk (hb); clear HO297; clear ho hb hg hat; obtain ⟨Ao27, co27, eo27⟩ := Kd.R_slice HO305.out; subst eo27) | ((with_reducible refine gate_dst (N := 35) rfl ?_); refine Kd.N_lit (Kd.slice 68 k68) _ 24 ?hg (N' := 35) ?hd (xs := ([y303] : List (List (S68)))) (inner := [.slice Ao27 y303.length co27]) (ok := (fun k_ => (P0_ k_ ∨ w.heap.size ≤ k_) ∧ some k_ ≠ (u3 : Value).ownBlock)) (okp := (fun k_ => (P0_ k_ ∨ w.heap.size ≤ k_) ∧ some k_ ≠ (u3 : Value).ownBlock)) ?hr ?hp (fun _ hk => hk) ((show ∀ k_, w26.heap.size ≤ k_ → (fun k_ => (P0_ k_ ∨ w.heap.size ≤ k_) ∧ some k_ ≠ (u3 : Value).ownBlock) k_ from fun k_ hk => ⟨(.inr (Nat.le_trans (below_size zq0) hk)), Kd.fresh' (Kd.N_lt (nQ HO_3.out)) k_ hk⟩) _ (Nat.le_refl _)) (Below.refl _ _) (Nat.le_refl _) zq30 ?_; (case hd => rfl); (case hg => rfl); (case hr => first | (go_simp; done) | (go_simp; rfl)); (case hp => exact (Reps.one (show Kd.FK (Kd.slice 68 k68) _ _ y303 [.slice Ao27 y303.length co27] from (Kd.FK_slice_mk (Kd.R_reads' (Kd.R_mono (ok' := (fun k_ => (P0_ k_ ∨ w.heap.size ≤ k_) ∧ some k_ ≠ (u3 : Value).ownBlock)) (Kd.R_apart' (HO305.out) (Kd.N_typed HO_3.out) zq34) (fun k_ hk => ⟨(.inr (hk.1)), hk.2⟩))).2.1 (Kd.R_F (Kd.R_mono (ok' := (fun k_ => (P0_ k_ ∨ w.heap.size ≤ k_) ∧ some k_ ≠ (u3 : Value).ownBlock)) (Kd.R_apart' (HO305.out) (Kd.N_typed HO_3.out) zq34) (fun k_ hk => ⟨(.inr (hk.1)), hk.2⟩))))) (Reps.none _ _))); intro v307 w28 ho29 hb hg_ hnew_; clear hg_ hnew_; (first | rw [← Ny306.out] at ho29 | (simp only [Int.reduceToNat] at ho29; rw [← Ny306.out] at ho29)); have HO308 := Aside0.mk (Kd.N_lower ho29 (below_size zq0)); replace HO_0 := Aside0.mk (Kd.V_elder' (vQ HO_0.out) (Kd.N_base ho29) hb); replace HO_3 := Aside0.mk (Kd.N_elder' (nQ HO_3.out) (Kd.N_base ho29) hb); replace HO_4 := Aside0.mk (Kd.V_elder' (vQ HO_4.out) (Kd.N_base ho29) hb); replace HO302 := Aside0.mk (Kd.V_elder' (vQ HO302.out) (Kd.N_base ho29) hb); replace HB := BB HB hb; clear HO305; clear hb ho29; obtain ⟨Ao31, co31, eo31⟩ := Kd.N_slice HO_3.out; subst eo31) | ((with_reducible refine gate_builtin (b := .append) (xs := #[.tmp 35, .tmp 36]) rfl ?_); at_builtin; refine Kd.N_append_rows (Kd.slice 68 k68) (w0 := w) w.heap.size rfl (.tmp 35) (.tmp 36) 32 24 (.slice none 0 0) 24 rfl Tryz.underlying32 info24 rfl zq34 zq4 v307 y306 x3_1 _ _ _ (fun k_ => (P0_ k_ ∨ w.heap.size ≤ k_)) (fun k_ => ((fun k_ => (P0_ k_ ∨ w.heap.size ≤ k_))) k_ ∧ some k_ ≠ (v307 : Value).ownBlock) rfl rfl ?aO ?aR (fun _ hk => hk) ?aF ?aB ?aS ?aL ?_; (case aR => exact (by skip; exact Kd.N_F (Kd.N_mono (ok' := (fun k_ => ((fun k_ => (P0_ k_ ∨ w.heap.size ≤ k_))) k_ ∧ some k_ ≠ (v307 : Value).ownBlock)) (HO_3.out) (fun k_ hk => ⟨hk.1.1, hk.2⟩)))); (case aB => exact zq0); (case aF => exact (fun k_ hk => (.inr (Nat.le_trans (below_size zq0) hk)))); (case aO => exact (by (with_reducible repeat (first | apply Kd.N_alloc | apply Kd.N_drewN | apply Kd.N_drew)); exact Kd.N_mono HO308.out (fun _ hk => hk.1))); (case aS => exact (below_size zq0)); (case aL => have := LMc18.out; omega); intro v310 w30 ho hb hg hat; rw [← Ny309.out] at ho; have HO311 := Aside0.mk (ho); replace HO_0 := Aside0.mk (Kd.V_afterv (ok := (fun k_ => (P0_ k_ ∨ w.heap.size ≤ k_) ∧ some k_ ≠ (.slice Ao31 x3_1.length co31 : Value).ownBlock)) (by (with_reducible repeat (first | apply Kd.V_alloc | apply Kd.V_drewN | apply Kd.V_drew)); exact Kd.V_mono HO_0.out (fun _ hk => ⟨⟨hk.1.1.1, hk.1.1.2⟩, hk.2⟩)) hg hat); replace HO_3 := Aside0.mk (Kd.N_afterv (ok := (fun k_ => (P0_ k_ ∨ w.heap.size ≤ k_))) (by (with_reducible repeat (first | apply Kd.N_alloc | apply Kd.N_drewN | apply Kd.N_drew)); exact Kd.N_mono HO_3.out (fun _ hk => ⟨hk.1.1, hk.2⟩)) hg hat); replace HO_4 := Aside0.mk (Kd.V_afterv (ok := (fun k_ => (P0_ k_ ∨ w.heap.size ≤ k_) ∧ some k_ ≠ (.slice Ao31 x3_1.length co31 : Value).ownBlock)) (by (with_reducible repeat (first | apply Kd.V_alloc | apply Kd.V_drewN | apply Kd.V_drew)); exact Kd.V_mono HO_4.out (fun _ hk => ⟨⟨hk.1.1.1, hk.1.1.2⟩, hk.2⟩)) hg hat); replace HO302 := Aside0.mk (Kd.V_afterv (ok := (fun k_ => (P0_ k_ ∨ w.heap.size ≤ k_) ∧ some k_ ≠ (.slice Ao31 x3_1.length co31 : Value).ownBlock)) (by (with_reducible repeat (first | apply Kd.V_alloc | apply Kd.V_drewN | apply Kd.V_drew)); exact Kd.V_mono HO302.out (fun _ hk => ⟨⟨hk.1.1.1, hk.1.1.2⟩, hk.2⟩)) hg hat); replace HB := Aside0.mk (hb); clear HO308; clear ho hb hg hat; have q32 : ((ji14) : Int) ≤ ((x4_1.length : Int) : Int) := of_decide_eq_true zq1; obtain ⟨i032, hi032, _, hsz32, _⟩ := info_parts info68; have hroom32 : x4_1.length ≤ co21 := (Kd.V_reads' HO_4.out).2.1; have hC32 : Kd.F k68 _ _ Ao21 x4_1.length x4_1 := (Kd.V_at (base := w.heap.size) HO_4.out).2.2; have hcut32 := cut_to (P := Tryz.prog) 24 68 .i64 Tryz.underlying24 hi032 Ao21 x4_1.length co21 (ji14) (of_decide_eq_true zq1) q32 hroom32; have hr32 := Kd.F_take (m := ((ji14) : Int).toNat) hC32 zq4; have hy32 : y312.length = ((ji14) : Int).toNat := (by rw [Ny312.out, List.length_take]; omega); rw [← Ny312.out] at hr32; rw [← hy32] at hcut32; have HO316 := Aside0.mk (show Kd.V k68 68 _ w.heap.size _ (.slice Ao21 y312.length co21) y312 from Kd.V_mk zq4 hr32); have HC316 := Aside0.mk (show y312.length ≤ co21 from by omega); clear hr32 hC32 hroom32 hi032 hsz32; have KY32 := Aside0.mk hy32; clear hy32; replace q32 := eq_true q32))
            go_roundg k1
            case measure => have := HK1.out; omega
            case rel => exact ⟨(y309), (y312), (wrap64 (x5_1 + 1)), zq3, H', ⟨by have := HK1.out; omega⟩, ⟨zq69⟩, ⟨(by (with_reducible repeat (first | apply Kd.N_alloc | apply Kd.N_drewN | apply Kd.N_drew)); exact HO311.out)⟩, ⟨(by (with_reducible repeat (first | apply Kd.V_alloc | apply Kd.V_drewN | apply Kd.V_drew)); exact Kd.V_mono HO316.out (fun _ hk => ⟨hk.1.1, hk.2⟩))⟩, ⟨zq0⟩⟩
           ·rw [if_neg c18] at H
            exact absurd H zq30
          ·rw [if_neg c17] at H
           exact absurd H zq30
         ·rw [if_neg c16] at H
          exact absurd H zq30
        ·rw [if_neg c15] at H
         exact absurd H zq30
       ·rw [if_neg c12] at H
        have c12b0 : decide (x5_1 < t293) = false := decide_eq_false c12; clear c12; obtain rfl := Option.some.inj H; have p292 : 0 ≤ ((ji8) : Int) := of_decide_eq_true zq1; have q292 : (ji8) < (l0.length : Int) := of_decide_eq_true zq1; obtain ⟨ad292, e292, hx292_0, hx292_1, hx292_2⟩ := at_T68 (Kd.V_reads' HO_0.out).2.2 (ji8) p292 q292; cases e292; replace p292 := eq_true p292; replace q292 := eq_true q292
        go_wp2_with (first | ((with_reducible refine gate_callee (f := 130) rfl ?_); refine goesL_ (some 21) rfl rfl Tryz.func130 zq17 rfl #[.int .i64 ((rd_T68 l0 (ji8)).f0)] rfl (by (try simp only [List.map_toArray, List.map_cons, List.map_nil]); first | done | (simp only [hji8]; rfl) | rfl | (simp only [List.length_drop, List.length_take]; rfl)) ?_; (with_reducible refine (r17_Takes.calls k1 ((rd_T68 l0 (ji8)).f0) t293 _ A11.out).mono ?_); rintro e w' ⟨rfl, ⟨nd, rfl⟩⟩; refine ⟨_, rfl, ?_⟩))
        go_ret; exact ⟨_, (by first | rfl | (simp [errW_none, errW_some] <;> rfl) | (simp only [← hji2, ← hji8]; first | rfl | (simp [errW_none, errW_some] <;> rfl)) | (simp [*, errW_none, errW_some] <;> rfl)), zq56, zq0⟩
      ·rw [if_neg c10] at H
       exact absurd H zq30
     ·rw [if_neg c9] at H
      exact absurd H zq30
  ·rw [if_neg c4] at H
   exact absurd H zq30
 ·rw [if_neg c3] at H
  exact absurd H zq30
def r05_Num.f (a0 : Int) : Option (Int × Int × ByteArray) := some (1, a0, (⟨#[]⟩ : ByteArray))
theorem r05_Num.calls (a0 : Int) (r1 : Int) (r2 : Int) (r3 : ByteArray) (w : World) (h : r05_Num.f a0 = some (r1, r2, r3)) :
  Calls Tryz.prog 178 #[.int .i64 a0] w fun e w' => e = .returned (.agg #[.int .i64 r1, .int .i64 r2, .string r3]) ∧ Below w.heap.size w w' := by
 have hu65 := Tryz.underlying65; have HB := Aside0.mk (Below.refl w.heap.size w); have H : (some (1, a0, (⟨#[]⟩ : ByteArray))) = some (r1, r2, r3) := h; clear h; simp only [Option.some.injEq, Prod.mk.injEq] at H; obtain ⟨rfl, rfl, rfl⟩ := H; go_enter Tryz.func178, Tryz.ntmps178
 go_wp2_with (first | (refine bZ 2 #[.int .i64 0, .int .i64 0, .string (⟨#[]⟩ : ByteArray)] 65 ?_; intro gb317 hg w2 hbox hb; have BK317 := Aside0.mk (hbox); have GW317 := GB HB hg; have GE317 := GW317; replace HB := BB HB hb; clear hb hbox hg; obtain ⟨hcz3_0, hcz3_1, hcz3_2, hfz3_0, hfz3_1, hfz3_2⟩ := bL3 BK317))
 refine bodyPost_ret (results_cell_row rfl _ _ gb317 65 #[.int .i64 1, .int .i64 a0, .string (⟨#[]⟩ : ByteArray)] (0, 0) _ rfl (by (with_reducible repeat (first | refine blk_drewN ?_ _ | refine blk_drew ?_ | refine blk_alloc ?_ _)); refine blk_put (cs := #[.int .i64 1, .int .i64 a0, .string (⟨#[]⟩ : ByteArray)]) ?_ 2 _ rfl; (with_reducible repeat (first | refine blk_drewN ?_ _ | refine blk_drew ?_ | refine blk_alloc ?_ _)); refine blk_put (cs := #[.int .i64 1, .int .i64 0, .string (⟨#[]⟩ : ByteArray)]) ?_ 1 _ rfl; (with_reducible repeat (first | refine blk_drewN ?_ _ | refine blk_drew ?_ | refine blk_alloc ?_ _)); refine blk_put (cs := #[.int .i64 0, .int .i64 0, .string (⟨#[]⟩ : ByteArray)]) ?_ 0 _ rfl; (with_reducible repeat (first | refine blk_drewN ?_ _ | refine blk_drew ?_ | refine blk_alloc ?_ _)); exact BK317.out) Tryz.underlying65 rfl zq17) rfl ?_; exact ⟨zq2, (by repeat (first | (with_reducible first | exact HB.out | apply below_alloc | apply pw_below_drewN | apply below_drew1 | refine below_set ?_ GE317.out) | exact HB.out))⟩
def r18_truth.f (a0 : Bool) : Option (Int × Int × ByteArray × Int) := if a0 = true then ((r05_Num.f 1).bind fun bt319 => (some (bt319.1, bt319.2.1, bt319.2.2, 0))) else ((r05_Num.f 0).bind fun bt322 => (some (bt322.1, bt322.2.1, bt322.2.2, 0)))
theorem r18_truth.calls (a0 : Bool) (r1 : Int) (r2 : Int) (r3 : ByteArray) (r4 : Int) (w : World) (h : r18_truth.f a0 = some (r1, r2, r3, r4)) :
  Calls Tryz.prog 170 #[.bool a0] w fun e w' => e = .returned (.tuple #[.agg #[.int .i64 r1, .int .i64 r2, .string r3], .int .i64 r4]) ∧ Below w.heap.size w w' := by
 have hu65 := Tryz.underlying65; have HB := Aside0.mk (Below.refl w.heap.size w); have H : (if a0 = true then ((r05_Num.f 1).bind fun bt319 => (some (bt319.1, bt319.2.1, bt319.2.2, 0))) else ((r05_Num.f 0).bind fun bt322 => (some (bt322.1, bt322.2.1, bt322.2.2, 0)))) = some (r1, r2, r3, r4) := h; clear h
 by_cases c2 : a0 = true
 ·subst c2
  have H1 : ((r05_Num.f 1).bind fun bt319 => (some (bt319.1, bt319.2.1, bt319.2.2, 0))) = some (r1, r2, r3, r4) := by rw [if_pos rfl] at H; exact H
  clear H; have H := H1; clear H1; replace H := Option.bind_eq_some_iff.mp H; obtain ⟨⟨t319, t320, t321⟩, A30, H⟩ := H; replace H : (some (t319, t320, t321, 0)) = some (r1, r2, r3, r4) := H; have A3 := Aside0.mk A30; clear A30; simp only [Option.some.injEq, Prod.mk.injEq] at H; obtain ⟨rfl, rfl, rfl, rfl⟩ := H; go_enter Tryz.func170, Tryz.ntmps170
  go_wp2_with (first | (refine bZ 2 #[.int .i64 0, .int .i64 0, .string (⟨#[]⟩ : ByteArray)] 65 ?_; intro gb318 hg w4 hbox hb; have BK318 := Aside0.mk (hbox); have GW318 := GB HB hg; have GE318 := GW318; replace HB := BB HB hb; clear hb hbox hg) | (refine gZ 5 Tryz.func178 #[.int .i64 1] ?_; (with_reducible refine (r05_Num.calls 1 t319 t320 t321 _ A3.out).mono ?_); rintro e w5 ⟨rfl, hb⟩; refine ⟨_, rfl, ?_⟩; replace BK318 := KB BK318 hb; replace HB := Aside0.mk (below_step zq49 hb); (try clear hb); obtain ⟨hcz6_0, hcz6_1, hcz6_2, hfz6_0, hfz6_1, hfz6_2⟩ := bL3 BK318))
  refine bodyPost_ret (results_ct rfl _ _ gb318 65 #[.int .i64 t319, .int .i64 t320, .string t321] (0, 0) _ rfl (by (with_reducible repeat (first | refine blk_drewN ?_ _ | refine blk_drew ?_ | refine blk_alloc ?_ _)); refine blk_put (cs := #[.int .i64 t319, .int .i64 t320, .string (⟨#[]⟩ : ByteArray)]) ?_ 2 _ rfl; (with_reducible repeat (first | refine blk_drewN ?_ _ | refine blk_drew ?_ | refine blk_alloc ?_ _)); refine blk_put (cs := #[.int .i64 t319, .int .i64 0, .string (⟨#[]⟩ : ByteArray)]) ?_ 1 _ rfl; (with_reducible repeat (first | refine blk_drewN ?_ _ | refine blk_drew ?_ | refine blk_alloc ?_ _)); refine blk_put (cs := #[.int .i64 0, .int .i64 0, .string (⟨#[]⟩ : ByteArray)]) ?_ 0 _ rfl; (with_reducible repeat (first | refine blk_drewN ?_ _ | refine blk_drew ?_ | refine blk_alloc ?_ _)); exact BK318.out) Tryz.underlying65 rfl zq17) rfl ?_; exact ⟨zq2, zq49⟩
 ·replace c2 := Bool.eq_false_iff.mpr c2
  subst c2; have H1 : ((r05_Num.f 0).bind fun bt322 => (some (bt322.1, bt322.2.1, bt322.2.2, 0))) = some (r1, r2, r3, r4) := by rw [if_neg (show ¬ (false = true) by decide)] at H; exact H
  clear H; have H := H1; clear H1; replace H := Option.bind_eq_some_iff.mp H; obtain ⟨⟨t322, t323, t324⟩, A70, H⟩ := H; replace H : (some (t322, t323, t324, 0)) = some (r1, r2, r3, r4) := H; have A7 := Aside0.mk A70; clear A70; simp only [Option.some.injEq, Prod.mk.injEq] at H; obtain ⟨rfl, rfl, rfl, rfl⟩ := H; go_enter Tryz.func170, Tryz.ntmps170
  go_wp2_with (first | (refine bZ 2 #[.int .i64 0, .int .i64 0, .string (⟨#[]⟩ : ByteArray)] 65 ?_; intro gb318 hg w8 hbox hb; have BK318 := Aside0.mk (hbox); have GW318 := GB HB hg; have GE318 := GW318; replace HB := BB HB hb; clear hb hbox hg) | (refine gZ 6 Tryz.func178 #[.int .i64 0] ?_; (with_reducible refine (r05_Num.calls 0 t322 t323 t324 _ A7.out).mono ?_); rintro e w9 ⟨rfl, hb⟩; refine ⟨_, rfl, ?_⟩; replace BK318 := KB BK318 hb; replace HB := Aside0.mk (below_step zq49 hb); (try clear hb); obtain ⟨hcz10_0, hcz10_1, hcz10_2, hfz10_0, hfz10_1, hfz10_2⟩ := bL3 BK318))
  refine bodyPost_ret (results_ct rfl _ _ gb318 65 #[.int .i64 t322, .int .i64 t323, .string t324] (0, 0) _ rfl (by (with_reducible repeat (first | refine blk_drewN ?_ _ | refine blk_drew ?_ | refine blk_alloc ?_ _)); refine blk_put (cs := #[.int .i64 t322, .int .i64 t323, .string (⟨#[]⟩ : ByteArray)]) ?_ 2 _ rfl; (with_reducible repeat (first | refine blk_drewN ?_ _ | refine blk_drew ?_ | refine blk_alloc ?_ _)); refine blk_put (cs := #[.int .i64 t322, .int .i64 0, .string (⟨#[]⟩ : ByteArray)]) ?_ 1 _ rfl; (with_reducible repeat (first | refine blk_drewN ?_ _ | refine blk_drew ?_ | refine blk_alloc ?_ _)); refine blk_put (cs := #[.int .i64 0, .int .i64 0, .string (⟨#[]⟩ : ByteArray)]) ?_ 0 _ rfl; (with_reducible repeat (first | refine blk_drewN ?_ _ | refine blk_drew ?_ | refine blk_alloc ?_ _)); exact BK318.out) Tryz.underlying65 rfl zq17) rfl ?_; exact ⟨zq2, zq49⟩
def r05_Text.f (a0 : ByteArray) : Option (Int × Int × ByteArray) := some (2, 0, a0)
theorem r05_Text.calls (a0 : ByteArray) (r1 : Int) (r2 : Int) (r3 : ByteArray) (w : World) (h : r05_Text.f a0 = some (r1, r2, r3)) :
  Calls Tryz.prog 171 #[.string a0] w fun e w' => e = .returned (.agg #[.int .i64 r1, .int .i64 r2, .string r3]) ∧ Below w.heap.size w w' := by
 have hu65 := Tryz.underlying65; have HB := Aside0.mk (Below.refl w.heap.size w); have H : (some (2, 0, a0)) = some (r1, r2, r3) := h; clear h; simp only [Option.some.injEq, Prod.mk.injEq] at H; obtain ⟨rfl, rfl, rfl⟩ := H; go_enter Tryz.func171, Tryz.ntmps171
 go_wp2_with (first | (refine bZ 2 #[.int .i64 0, .int .i64 0, .string (⟨#[]⟩ : ByteArray)] 65 ?_; intro gb325 hg w2 hbox hb; have BK325 := Aside0.mk (hbox); have GW325 := GB HB hg; have GE325 := GW325; replace HB := BB HB hb; clear hb hbox hg; obtain ⟨hcz3_0, hcz3_1, hcz3_2, hfz3_0, hfz3_1, hfz3_2⟩ := bL3 BK325))
 refine bodyPost_ret (results_cell_row rfl _ _ gb325 65 #[.int .i64 2, .int .i64 0, .string a0] (0, 0) _ rfl (by (with_reducible repeat (first | refine blk_drewN ?_ _ | refine blk_drew ?_ | refine blk_alloc ?_ _)); refine blk_put (cs := #[.int .i64 2, .int .i64 0, .string (⟨#[]⟩ : ByteArray)]) ?_ 2 _ rfl; (with_reducible repeat (first | refine blk_drewN ?_ _ | refine blk_drew ?_ | refine blk_alloc ?_ _)); refine blk_put (cs := #[.int .i64 2, .int .i64 0, .string (⟨#[]⟩ : ByteArray)]) ?_ 1 _ rfl; (with_reducible repeat (first | refine blk_drewN ?_ _ | refine blk_drew ?_ | refine blk_alloc ?_ _)); refine blk_put (cs := #[.int .i64 0, .int .i64 0, .string (⟨#[]⟩ : ByteArray)]) ?_ 0 _ rfl; (with_reducible repeat (first | refine blk_drewN ?_ _ | refine blk_drew ?_ | refine blk_alloc ?_ _)); exact BK325.out) Tryz.underlying65 rfl zq17) rfl ?_; exact ⟨zq2, (by repeat (first | (with_reducible first | exact HB.out | apply below_alloc | apply pw_below_drewN | apply below_drew1 | refine below_set ?_ GE325.out) | exact HB.out))⟩
def r18_number.f (a0 : Int) (a1 : Int) : Option (Int × Int × ByteArray × Int) := if a1 = 0 then ((r05_Num.f a0).bind fun bt327 => (some (bt327.1, bt327.2.1, bt327.2.2, 0))) else (some (0, 0, (⟨#[]⟩ : ByteArray), a1))
theorem r18_number.calls (a0 : Int) (a1 : Int) (r1 : Int) (r2 : Int) (r3 : ByteArray) (r4 : Int) (w : World) (h : r18_number.f a0 a1 = some (r1, r2, r3, r4)) :
  Calls Tryz.prog 172 #[.int .i64 a0, .int .i64 a1] w fun e w' => e = .returned (.tuple #[.agg #[.int .i64 r1, .int .i64 r2, .string r3], .int .i64 r4]) ∧ Below w.heap.size w w' := by
 have hu65 := Tryz.underlying65; have HB := Aside0.mk (Below.refl w.heap.size w); have H : (if a1 = 0 then ((r05_Num.f a0).bind fun bt327 => (some (bt327.1, bt327.2.1, bt327.2.2, 0))) else (some (0, 0, (⟨#[]⟩ : ByteArray), a1))) = some (r1, r2, r3, r4) := h; clear h
 by_cases c3 : a1 = 0
 ·rw [if_pos c3] at H
  have c3b0 : (a1 == 0) = true := beq_iff_eq.mpr c3; have c3b1 : (a1 != 0) = false := bne_eq_false_iff_eq.mpr c3; clear c3; replace H := Option.bind_eq_some_iff.mp H; obtain ⟨⟨t327, t328, t329⟩, A40, H⟩ := H; replace H : (some (t327, t328, t329, 0)) = some (r1, r2, r3, r4) := H; have A4 := Aside0.mk A40; clear A40; simp only [Option.some.injEq, Prod.mk.injEq] at H; obtain ⟨rfl, rfl, rfl, rfl⟩ := H; go_enter Tryz.func172, Tryz.ntmps172
  go_wp2_with (first | (refine bZ 4 #[.int .i64 0, .int .i64 0, .string (⟨#[]⟩ : ByteArray)] 65 ?_; intro gb326 hg w5 hbox hb; have BK326 := Aside0.mk (hbox); have GW326 := GB HB hg; have GE326 := GW326; replace HB := BB HB hb; clear hb hbox hg) | (refine gZ 11 Tryz.func178 #[.int .i64 a0] ?_; (with_reducible refine (r05_Num.calls a0 t327 t328 t329 _ A4.out).mono ?_); rintro e w6 ⟨rfl, hb⟩; refine ⟨_, rfl, ?_⟩; replace BK326 := KB BK326 hb; replace HB := Aside0.mk (below_step zq65 hb); (try clear hb); obtain ⟨hcz7_0, hcz7_1, hcz7_2, hfz7_0, hfz7_1, hfz7_2⟩ := bL3 BK326))
  refine bodyPost_ret (results_ct rfl _ _ gb326 65 #[.int .i64 t327, .int .i64 t328, .string t329] (0, 0) _ rfl (by (with_reducible repeat (first | refine blk_drewN ?_ _ | refine blk_drew ?_ | refine blk_alloc ?_ _)); refine blk_put (cs := #[.int .i64 t327, .int .i64 t328, .string (⟨#[]⟩ : ByteArray)]) ?_ 2 _ rfl; (with_reducible repeat (first | refine blk_drewN ?_ _ | refine blk_drew ?_ | refine blk_alloc ?_ _)); refine blk_put (cs := #[.int .i64 t327, .int .i64 0, .string (⟨#[]⟩ : ByteArray)]) ?_ 1 _ rfl; (with_reducible repeat (first | refine blk_drewN ?_ _ | refine blk_drew ?_ | refine blk_alloc ?_ _)); refine blk_put (cs := #[.int .i64 0, .int .i64 0, .string (⟨#[]⟩ : ByteArray)]) ?_ 0 _ rfl; (with_reducible repeat (first | refine blk_drewN ?_ _ | refine blk_drew ?_ | refine blk_alloc ?_ _)); exact BK326.out) Tryz.underlying65 rfl zq17) rfl ?_; exact ⟨zq2, zq65⟩
 ·rw [if_neg c3] at H
  have c3b0 : (a1 == 0) = false := beq_eq_false_iff_ne.mpr c3; have c3b1 : (a1 != 0) = true := bne_iff_ne.mpr c3; simp only [Option.some.injEq, Prod.mk.injEq] at H; obtain ⟨rfl, rfl, rfl, rfl⟩ := H; go_enter Tryz.func172, Tryz.ntmps172
  go_wp2_with (first | (refine bZ 4 #[.int .i64 0, .int .i64 0, .string (⟨#[]⟩ : ByteArray)] 65 ?_; intro gb326 hg w8 hbox hb; have BK326 := Aside0.mk (hbox); have GW326 := GB HB hg; have GE326 := GW326; replace HB := BB HB hb; clear hb hbox hg; obtain ⟨hcz9_0, hcz9_1, hcz9_2, hfz9_0, hfz9_1, hfz9_2⟩ := bL3 BK326))
  refine bodyPost_ret (results_ct rfl _ _ gb326 65 #[.int .i64 0, .int .i64 0, .string (⟨#[]⟩ : ByteArray)] (0, 0) _ rfl (by (with_reducible repeat (first | refine blk_drewN ?_ _ | refine blk_drew ?_ | refine blk_alloc ?_ _)); refine blk_put (cs := #[.int .i64 0, .int .i64 0, .string (⟨#[]⟩ : ByteArray)]) ?_ 2 _ rfl; (with_reducible repeat (first | refine blk_drewN ?_ _ | refine blk_drew ?_ | refine blk_alloc ?_ _)); refine blk_put (cs := #[.int .i64 0, .int .i64 0, .string (⟨#[]⟩ : ByteArray)]) ?_ 1 _ rfl; (with_reducible repeat (first | refine blk_drewN ?_ _ | refine blk_drew ?_ | refine blk_alloc ?_ _)); refine blk_put (cs := #[.int .i64 0, .int .i64 0, .string (⟨#[]⟩ : ByteArray)]) ?_ 0 _ rfl; (with_reducible repeat (first | refine blk_drewN ?_ _ | refine blk_drew ?_ | refine blk_alloc ?_ _)); exact BK326.out) Tryz.underlying65 rfl zq17) rfl ?_; exact ⟨zq2, zq65⟩
def r01_Add.f (a0 : Int) (a1 : Int) : Option (Int × Int) := if a1 > 0 then (if a0 > (wrap64 (9223372036854775807 - a1)) then (some (0, 10)) else (if a1 < 0 then (if a0 < (wrap64 ((-9223372036854775808) - a1)) then (some (0, 10)) else (some (wrap64 (a0 + a1), 0))) else (some (wrap64 (a0 + a1), 0)))) else (if a1 < 0 then (if a0 < (wrap64 ((-9223372036854775808) - a1)) then (some (0, 10)) else (some (wrap64 (a0 + a1), 0))) else (some (wrap64 (a0 + a1), 0)))
theorem r01_Add.calls (a0 : Int) (a1 : Int) (r1 : Int) (r2 : Int) (w : World) (h : r01_Add.f a0 a1 = some (r1, r2)) :
  Calls Tryz.prog 173 #[.int .i64 a0, .int .i64 a1] w fun e w' => e = .returned (.tuple #[.int .i64 r1, .int .i64 r2]) ∧ Drawn0 w w' := by
 have H : (if a1 > 0 then (if a0 > (wrap64 (9223372036854775807 - a1)) then (some (0, 10)) else (if a1 < 0 then (if a0 < (wrap64 ((-9223372036854775808) - a1)) then (some (0, 10)) else (some (wrap64 (a0 + a1), 0))) else (some (wrap64 (a0 + a1), 0)))) else (if a1 < 0 then (if a0 < (wrap64 ((-9223372036854775808) - a1)) then (some (0, 10)) else (some (wrap64 (a0 + a1), 0))) else (some (wrap64 (a0 + a1), 0)))) = some (r1, r2) := h; clear h
 by_cases c3 : a1 > 0
 ·rw [if_pos c3] at H
  have c3b0 : decide (0 < a1) = true := decide_eq_true c3; clear c3
  by_cases c4 : a0 > (wrap64 (9223372036854775807 - a1))
  ·rw [if_pos c4] at H
   have c4b0 : decide ((wrap64 (9223372036854775807 - a1)) < a0) = true := decide_eq_true c4; clear c4; simp only [Option.some.injEq, Prod.mk.injEq] at H; obtain ⟨rfl, rfl⟩ := H; go_enter Tryz.func173, Tryz.ntmps173; go_wp2; go_ret2; exact ⟨zq3, zq5⟩
  ·rw [if_neg c4] at H
   have c4b0 : decide ((wrap64 (9223372036854775807 - a1)) < a0) = false := decide_eq_false c4; clear c4
   by_cases c5 : a1 < 0
   ·rw [if_pos c5] at H
    have c5b0 : decide (a1 < 0) = true := decide_eq_true c5; clear c5
    by_cases c6 : a0 < (wrap64 ((-9223372036854775808) - a1))
    ·rw [if_pos c6] at H
     have c6b0 : decide (a0 < (wrap64 ((-9223372036854775808) - a1))) = true := decide_eq_true c6; clear c6; simp only [Option.some.injEq, Prod.mk.injEq] at H; obtain ⟨rfl, rfl⟩ := H; go_enter Tryz.func173, Tryz.ntmps173; go_wp2; go_ret2; exact ⟨zq3, zq5⟩
    ·rw [if_neg c6] at H
     have c6b0 : decide (a0 < (wrap64 ((-9223372036854775808) - a1))) = false := decide_eq_false c6; clear c6; simp only [Option.some.injEq, Prod.mk.injEq] at H; obtain ⟨rfl, rfl⟩ := H; go_enter Tryz.func173, Tryz.ntmps173; go_wp2; go_ret2; exact ⟨zq3, zq5⟩
   ·rw [if_neg c5] at H
    have c5b0 : decide (a1 < 0) = false := decide_eq_false c5; clear c5; simp only [Option.some.injEq, Prod.mk.injEq] at H; obtain ⟨rfl, rfl⟩ := H; go_enter Tryz.func173, Tryz.ntmps173; go_wp2; go_ret2; exact ⟨zq3, zq5⟩
 ·rw [if_neg c3] at H
  have c3b0 : decide (0 < a1) = false := decide_eq_false c3; clear c3
  by_cases c7 : a1 < 0
  ·rw [if_pos c7] at H
   have c7b0 : decide (a1 < 0) = true := decide_eq_true c7; clear c7
   by_cases c8 : a0 < (wrap64 ((-9223372036854775808) - a1))
   ·rw [if_pos c8] at H
    have c8b0 : decide (a0 < (wrap64 ((-9223372036854775808) - a1))) = true := decide_eq_true c8; clear c8; simp only [Option.some.injEq, Prod.mk.injEq] at H; obtain ⟨rfl, rfl⟩ := H; go_enter Tryz.func173, Tryz.ntmps173; go_wp2; go_ret2; exact ⟨zq3, zq5⟩
   ·rw [if_neg c8] at H
    have c8b0 : decide (a0 < (wrap64 ((-9223372036854775808) - a1))) = false := decide_eq_false c8; clear c8; simp only [Option.some.injEq, Prod.mk.injEq] at H; obtain ⟨rfl, rfl⟩ := H; go_enter Tryz.func173, Tryz.ntmps173; go_wp2; go_ret2; exact ⟨zq3, zq5⟩
  ·rw [if_neg c7] at H
   have c7b0 : decide (a1 < 0) = false := decide_eq_false c7; clear c7; simp only [Option.some.injEq, Prod.mk.injEq] at H; obtain ⟨rfl, rfl⟩ := H; go_enter Tryz.func173, Tryz.ntmps173; go_wp2; go_ret2; exact ⟨zq3, zq5⟩
def r01_Sub.f (a0 : Int) (a1 : Int) : Option (Int × Int) := if a1 < 0 then (if a0 > (wrap64 (9223372036854775807 + a1)) then (some (0, 10)) else (if a1 > 0 then (if a0 < (wrap64 ((-9223372036854775808) + a1)) then (some (0, 10)) else (some (wrap64 (a0 - a1), 0))) else (some (wrap64 (a0 - a1), 0)))) else (if a1 > 0 then (if a0 < (wrap64 ((-9223372036854775808) + a1)) then (some (0, 10)) else (some (wrap64 (a0 - a1), 0))) else (some (wrap64 (a0 - a1), 0)))
theorem r01_Sub.calls (a0 : Int) (a1 : Int) (r1 : Int) (r2 : Int) (w : World) (h : r01_Sub.f a0 a1 = some (r1, r2)) :
  Calls Tryz.prog 174 #[.int .i64 a0, .int .i64 a1] w fun e w' => e = .returned (.tuple #[.int .i64 r1, .int .i64 r2]) ∧ Drawn0 w w' := by
 have H : (if a1 < 0 then (if a0 > (wrap64 (9223372036854775807 + a1)) then (some (0, 10)) else (if a1 > 0 then (if a0 < (wrap64 ((-9223372036854775808) + a1)) then (some (0, 10)) else (some (wrap64 (a0 - a1), 0))) else (some (wrap64 (a0 - a1), 0)))) else (if a1 > 0 then (if a0 < (wrap64 ((-9223372036854775808) + a1)) then (some (0, 10)) else (some (wrap64 (a0 - a1), 0))) else (some (wrap64 (a0 - a1), 0)))) = some (r1, r2) := h; clear h
 by_cases c3 : a1 < 0
 ·rw [if_pos c3] at H
  have c3b0 : decide (a1 < 0) = true := decide_eq_true c3; clear c3
  by_cases c4 : a0 > (wrap64 (9223372036854775807 + a1))
  ·rw [if_pos c4] at H
   have c4b0 : decide ((wrap64 (9223372036854775807 + a1)) < a0) = true := decide_eq_true c4; clear c4; simp only [Option.some.injEq, Prod.mk.injEq] at H; obtain ⟨rfl, rfl⟩ := H; go_enter Tryz.func174, Tryz.ntmps174; go_wp2; go_ret2; exact ⟨zq3, zq5⟩
  ·rw [if_neg c4] at H
   have c4b0 : decide ((wrap64 (9223372036854775807 + a1)) < a0) = false := decide_eq_false c4; clear c4
   by_cases c5 : a1 > 0
   ·rw [if_pos c5] at H
    have c5b0 : decide (0 < a1) = true := decide_eq_true c5; clear c5
    by_cases c6 : a0 < (wrap64 ((-9223372036854775808) + a1))
    ·rw [if_pos c6] at H
     have c6b0 : decide (a0 < (wrap64 ((-9223372036854775808) + a1))) = true := decide_eq_true c6; clear c6; simp only [Option.some.injEq, Prod.mk.injEq] at H; obtain ⟨rfl, rfl⟩ := H; go_enter Tryz.func174, Tryz.ntmps174; go_wp2; go_ret2; exact ⟨zq3, zq5⟩
    ·rw [if_neg c6] at H
     have c6b0 : decide (a0 < (wrap64 ((-9223372036854775808) + a1))) = false := decide_eq_false c6; clear c6; simp only [Option.some.injEq, Prod.mk.injEq] at H; obtain ⟨rfl, rfl⟩ := H; go_enter Tryz.func174, Tryz.ntmps174; go_wp2; go_ret2; exact ⟨zq3, zq5⟩
   ·rw [if_neg c5] at H
    have c5b0 : decide (0 < a1) = false := decide_eq_false c5; clear c5; simp only [Option.some.injEq, Prod.mk.injEq] at H; obtain ⟨rfl, rfl⟩ := H; go_enter Tryz.func174, Tryz.ntmps174; go_wp2; go_ret2; exact ⟨zq3, zq5⟩
 ·rw [if_neg c3] at H
  have c3b0 : decide (a1 < 0) = false := decide_eq_false c3; clear c3
  by_cases c7 : a1 > 0
  ·rw [if_pos c7] at H
   have c7b0 : decide (0 < a1) = true := decide_eq_true c7; clear c7
   by_cases c8 : a0 < (wrap64 ((-9223372036854775808) + a1))
   ·rw [if_pos c8] at H
    have c8b0 : decide (a0 < (wrap64 ((-9223372036854775808) + a1))) = true := decide_eq_true c8; clear c8; simp only [Option.some.injEq, Prod.mk.injEq] at H; obtain ⟨rfl, rfl⟩ := H; go_enter Tryz.func174, Tryz.ntmps174; go_wp2; go_ret2; exact ⟨zq3, zq5⟩
   ·rw [if_neg c8] at H
    have c8b0 : decide (a0 < (wrap64 ((-9223372036854775808) + a1))) = false := decide_eq_false c8; clear c8; simp only [Option.some.injEq, Prod.mk.injEq] at H; obtain ⟨rfl, rfl⟩ := H; go_enter Tryz.func174, Tryz.ntmps174; go_wp2; go_ret2; exact ⟨zq3, zq5⟩
  ·rw [if_neg c7] at H
   have c7b0 : decide (0 < a1) = false := decide_eq_false c7; clear c7; simp only [Option.some.injEq, Prod.mk.injEq] at H; obtain ⟨rfl, rfl⟩ := H; go_enter Tryz.func174, Tryz.ntmps174; go_wp2; go_ret2; exact ⟨zq3, zq5⟩
mutual
def r01_Mul.j0 : Nat → Int → Int → Bool → Option (Int × Int)
 | 0, _, _, _ => none
 | k + 1, x0, x1, x12 => if x12 = true then (some (0, 0)) else (if x0 = (-1) then (if x1 = (-9223372036854775808) then (r01_Mul.j1 k x0 x1 true) else (if x1 = (-1) then (r01_Mul.j1 k x0 x1 (x0 == (-9223372036854775808))) else (r01_Mul.j1 k x0 x1 false))) else (if x1 = (-1) then (r01_Mul.j1 k x0 x1 (x0 == (-9223372036854775808))) else (r01_Mul.j1 k x0 x1 false)))
def r01_Mul.j1 : Nat → Int → Int → Bool → Option (Int × Int)
 | 0, _, _, _ => none
 | k + 1, x0, x1, x26 => if x26 = true then (some (0, 10)) else (if x1 = 0 then (none) else (if (wrap64 (Int.tdiv (wrap64 (x0 * x1)) x1)) = x0 then (some (wrap64 (x0 * x1), 0)) else (some (0, 10))))
end
def r01_Mul.f (k : Nat) (a0 : Int) (a1 : Int) : Option (Int × Int) := if a0 = 0 then (r01_Mul.j0 k a0 a1 true) else (r01_Mul.j0 k a0 a1 (a1 == 0))
theorem r01_Mul.calls (k : Nat) (a0 : Int) (a1 : Int) (r1 : Int) (r2 : Int) (w : World) (h : r01_Mul.f k a0 a1 = some (r1, r2)) :
  Calls Tryz.prog 175 #[.int .i64 a0, .int .i64 a1] w fun e w' => e = .returned (.tuple #[.int .i64 r1, .int .i64 r2]) ∧ Drawn0 w w' := by
 have H : (if a0 = 0 then (r01_Mul.j0 k a0 a1 true) else (r01_Mul.j0 k a0 a1 (a1 == 0))) = some (r1, r2) := h; clear h; have HC3 := Aside0.mk H; clear H; go_enter Tryz.func175, Tryz.ntmps175
 go_upto_region 1 with (fail)
 go_cut [12] (fun v12 wc => ∃ (kq : Nat) (x12_2 : Bool), v12 = .bool x12_2 ∧ Aside0 (r01_Mul.j0 kq a0 a1 x12_2 = some (r1, r2)) ∧ Aside0 (kq ≤ k) ∧ Drawn0 w wc)
 case first =>
  have H := HC3.out; clear HC3
  by_cases c4 : a0 = 0
  ·rw [if_pos c4] at H
   have c4b0 : (a0 == 0) = true := beq_iff_eq.mpr c4; have c4b1 : (a0 != 0) = false := bne_eq_false_iff_eq.mpr c4; clear c4
   (first | rw [c4b0] | (simp only [i64_w, i32_w]; rw [c4b0]) | skip)
   have H' := Aside0.mk H; clear H; go_wp2
   go_meet
   case rel => exact ⟨_, (true), zq3, H', ⟨zq32⟩, zq5⟩
  ·rw [if_neg c4] at H
   have c4b0 : (a0 == 0) = false := beq_eq_false_iff_ne.mpr c4; have c4b1 : (a0 != 0) = true := bne_iff_ne.mpr c4
   (first | rw [c4b0] | (simp only [i64_w, i32_w]; rw [c4b0]) | skip)
   have H' := Aside0.mk H; clear H; go_wp2
   go_meet
   case rel => exact ⟨_, ((a1 == 0)), zq3, H', ⟨zq32⟩, zq5⟩
 case rest =>
  clear HC3
  try clear c1
  try clear p2
  try clear c4
  try clear c4b0
  try clear c4b1
  obtain ⟨kq, x12_2, rfl, HA, HJ2, ⟨mc2, rfl⟩⟩ := hcut; cases kq with
  | zero => exact absurd HA.out (by simp [r01_Mul.j0])
  | succ kj2 =>
   have H := HA.out; clear HA; simp only [r01_Mul.j0] at H
   by_cases c5 : x12_2 = true
   ·subst c5
    have H1 : (some (0, 0)) = some (r1, r2) := by rw [if_pos rfl] at H; exact H
    clear H; have H := H1; clear H1; simp only [Option.some.injEq, Prod.mk.injEq] at H; obtain ⟨rfl, rfl⟩ := H; go_wp2; go_ret2; exact ⟨zq3, zq5⟩
   ·replace c5 := Bool.eq_false_iff.mpr c5
    subst c5; have H1 : (if a0 = (-1) then (if a1 = (-9223372036854775808) then (r01_Mul.j1 kj2 a0 a1 true) else (if a1 = (-1) then (r01_Mul.j1 kj2 a0 a1 (a0 == (-9223372036854775808))) else (r01_Mul.j1 kj2 a0 a1 false))) else (if a1 = (-1) then (r01_Mul.j1 kj2 a0 a1 (a0 == (-9223372036854775808))) else (r01_Mul.j1 kj2 a0 a1 false))) = some (r1, r2) := by rw [if_neg (show ¬ (false = true) by decide)] at H; exact H
    clear H; have H := H1; clear H1; have HC6 := Aside0.mk H; clear H
    go_upto_region 3 with (fail)
    go_cut [26] (fun v26 wc => ∃ (kq : Nat) (x26_5 : Bool), v26 = .bool x26_5 ∧ Aside0 (r01_Mul.j1 kq a0 a1 x26_5 = some (r1, r2)) ∧ Aside0 (kq ≤ kj2) ∧ Drawn0 w wc)
    case first =>
     have H := HC6.out; clear HC6
     by_cases c7 : a0 = (-1)
     ·rw [if_pos c7] at H
      have c7b0 : (a0 == (-1)) = true := beq_iff_eq.mpr c7; have c7b1 : (a0 != (-1)) = false := bne_eq_false_iff_eq.mpr c7; clear c7
      (first | rw [c7b0] | (simp only [i64_w, i32_w]; rw [c7b0]) | skip)
      by_cases c8 : a1 = (-9223372036854775808)
      ·rw [if_pos c8] at H
       have c8b0 : (a1 == (-9223372036854775808)) = true := beq_iff_eq.mpr c8; have c8b1 : (a1 != (-9223372036854775808)) = false := bne_eq_false_iff_eq.mpr c8; clear c8; have H' := Aside0.mk H; clear H; go_wp2
       go_meet
       case rel => exact ⟨_, (true), zq3, H', ⟨by have := HJ2.out; first | omega | exact Nat.le_refl _⟩, zq5⟩
      ·rw [if_neg c8] at H
       have c8b0 : (a1 == (-9223372036854775808)) = false := beq_eq_false_iff_ne.mpr c8; have c8b1 : (a1 != (-9223372036854775808)) = true := bne_iff_ne.mpr c8
       by_cases c9 : a1 = (-1)
       ·rw [if_pos c9] at H
        have c9b0 : (a1 == (-1)) = true := beq_iff_eq.mpr c9; have c9b1 : (a1 != (-1)) = false := bne_eq_false_iff_eq.mpr c9; clear c9; have H' := Aside0.mk H; clear H; go_wp2
        go_meet
        case rel => exact ⟨_, ((a0 == (-9223372036854775808))), zq3, H', ⟨by have := HJ2.out; first | omega | exact Nat.le_refl _⟩, zq5⟩
       ·rw [if_neg c9] at H
        have c9b0 : (a1 == (-1)) = false := beq_eq_false_iff_ne.mpr c9; have c9b1 : (a1 != (-1)) = true := bne_iff_ne.mpr c9; have H' := Aside0.mk H; clear H; go_wp2
        go_meet
        case rel => exact ⟨_, (false), zq3, H', ⟨by have := HJ2.out; first | omega | exact Nat.le_refl _⟩, zq5⟩
     ·rw [if_neg c7] at H
      have c7b0 : (a0 == (-1)) = false := beq_eq_false_iff_ne.mpr c7; have c7b1 : (a0 != (-1)) = true := bne_iff_ne.mpr c7
      (first | rw [c7b0] | (simp only [i64_w, i32_w]; rw [c7b0]) | skip)
      by_cases c10 : a1 = (-1)
      ·rw [if_pos c10] at H
       have c10b0 : (a1 == (-1)) = true := beq_iff_eq.mpr c10; have c10b1 : (a1 != (-1)) = false := bne_eq_false_iff_eq.mpr c10; clear c10; have H' := Aside0.mk H; clear H; go_wp2
       go_meet
       case rel => exact ⟨_, ((a0 == (-9223372036854775808))), zq3, H', ⟨by have := HJ2.out; first | omega | exact Nat.le_refl _⟩, zq5⟩
      ·rw [if_neg c10] at H
       have c10b0 : (a1 == (-1)) = false := beq_eq_false_iff_ne.mpr c10; have c10b1 : (a1 != (-1)) = true := bne_iff_ne.mpr c10; have H' := Aside0.mk H; clear H; go_wp2
       go_meet
       case rel => exact ⟨_, (false), zq3, H', ⟨by have := HJ2.out; first | omega | exact Nat.le_refl _⟩, zq5⟩
    case rest =>
     clear HC6
     try clear c1
     try clear c2
     try clear p2
     try clear c4
     try clear c4b0
     try clear c4b1
     try clear c5
     try clear c7
     try clear c7b0
     try clear c7b1
     try clear c8
     try clear c8b0
     try clear c8b1
     try clear c9
     try clear c9b0
     try clear c9b1
     try clear c10
     try clear c10b0
     try clear c10b1
     try clear p2
     obtain ⟨kq, x26_5, rfl, HA, HJ5, ⟨mc5, rfl⟩⟩ := hcut; cases kq with
     | zero => exact absurd HA.out (by simp [r01_Mul.j1])
     | succ kj5 =>
      have H := HA.out; clear HA; simp only [r01_Mul.j1] at H
      by_cases c11 : x26_5 = true
      ·subst c11
       have H1 : (some (0, 10)) = some (r1, r2) := by rw [if_pos rfl] at H; exact H
       clear H; have H := H1; clear H1; simp only [Option.some.injEq, Prod.mk.injEq] at H; obtain ⟨rfl, rfl⟩ := H; go_wp2; go_ret2; exact ⟨zq3, zq5⟩
      ·replace c11 := Bool.eq_false_iff.mpr c11
       subst c11; have H1 : (if a1 = 0 then (none) else (if (wrap64 (Int.tdiv (wrap64 (a0 * a1)) a1)) = a0 then (some (wrap64 (a0 * a1), 0)) else (some (0, 10)))) = some (r1, r2) := by rw [if_neg (show ¬ (false = true) by decide)] at H; exact H
       clear H; have H := H1; clear H1
       by_cases c12 : a1 = 0
       ·rw [if_pos c12] at H
        exact absurd H zq30
       ·rw [if_neg c12] at H
        have c12b0 : (a1 == 0) = false := beq_eq_false_iff_ne.mpr c12; have c12b1 : (a1 != 0) = true := bne_iff_ne.mpr c12
        by_cases c13 : (wrap64 (Int.tdiv (wrap64 (a0 * a1)) a1)) = a0
        ·rw [if_pos c13] at H
         have c13b0 : ((wrap64 (Int.tdiv (wrap64 (a0 * a1)) a1)) == a0) = true := beq_iff_eq.mpr c13; have c13b1 : ((wrap64 (Int.tdiv (wrap64 (a0 * a1)) a1)) != a0) = false := bne_eq_false_iff_eq.mpr c13; clear c13; simp only [Option.some.injEq, Prod.mk.injEq] at H; obtain ⟨rfl, rfl⟩ := H; go_wp2; go_ret2; exact ⟨zq3, zq5⟩
        ·rw [if_neg c13] at H
         have c13b0 : ((wrap64 (Int.tdiv (wrap64 (a0 * a1)) a1)) == a0) = false := beq_eq_false_iff_ne.mpr c13; have c13b1 : ((wrap64 (Int.tdiv (wrap64 (a0 * a1)) a1)) != a0) = true := bne_iff_ne.mpr c13; simp only [Option.some.injEq, Prod.mk.injEq] at H; obtain ⟨rfl, rfl⟩ := H; go_wp2; go_ret2; exact ⟨zq3, zq5⟩
def r01_Quo.f (a0 : Int) (a1 : Int) : Option (Int × Int) := if a1 = 0 then (some (0, 11)) else (if a0 = (-9223372036854775808) then (if a1 = (-1) then (some (0, 10)) else (some (wrap64 (Int.tdiv a0 a1), 0))) else (some (wrap64 (Int.tdiv a0 a1), 0)))
theorem r01_Quo.calls (a0 : Int) (a1 : Int) (r1 : Int) (r2 : Int) (w : World) (h : r01_Quo.f a0 a1 = some (r1, r2)) :
  Calls Tryz.prog 176 #[.int .i64 a0, .int .i64 a1] w fun e w' => e = .returned (.tuple #[.int .i64 r1, .int .i64 r2]) ∧ Drawn0 w w' := by
 have H : (if a1 = 0 then (some (0, 11)) else (if a0 = (-9223372036854775808) then (if a1 = (-1) then (some (0, 10)) else (some (wrap64 (Int.tdiv a0 a1), 0))) else (some (wrap64 (Int.tdiv a0 a1), 0)))) = some (r1, r2) := h; clear h
 by_cases c3 : a1 = 0
 ·rw [if_pos c3] at H
  have c3b0 : (a1 == 0) = true := beq_iff_eq.mpr c3; have c3b1 : (a1 != 0) = false := bne_eq_false_iff_eq.mpr c3; clear c3; simp only [Option.some.injEq, Prod.mk.injEq] at H; obtain ⟨rfl, rfl⟩ := H; go_enter Tryz.func176, Tryz.ntmps176; go_wp2; go_ret2; exact ⟨zq3, zq5⟩
 ·rw [if_neg c3] at H
  have c3b0 : (a1 == 0) = false := beq_eq_false_iff_ne.mpr c3; have c3b1 : (a1 != 0) = true := bne_iff_ne.mpr c3
  by_cases c4 : a0 = (-9223372036854775808)
  ·rw [if_pos c4] at H
   have c4b0 : (a0 == (-9223372036854775808)) = true := beq_iff_eq.mpr c4; have c4b1 : (a0 != (-9223372036854775808)) = false := bne_eq_false_iff_eq.mpr c4; clear c4
   by_cases c5 : a1 = (-1)
   ·rw [if_pos c5] at H
    have c5b0 : (a1 == (-1)) = true := beq_iff_eq.mpr c5; have c5b1 : (a1 != (-1)) = false := bne_eq_false_iff_eq.mpr c5; clear c5; simp only [Option.some.injEq, Prod.mk.injEq] at H; obtain ⟨rfl, rfl⟩ := H; go_enter Tryz.func176, Tryz.ntmps176; go_wp2; go_ret2; exact ⟨zq3, zq5⟩
   ·rw [if_neg c5] at H
    have c5b0 : (a1 == (-1)) = false := beq_eq_false_iff_ne.mpr c5; have c5b1 : (a1 != (-1)) = true := bne_iff_ne.mpr c5; simp only [Option.some.injEq, Prod.mk.injEq] at H; obtain ⟨rfl, rfl⟩ := H; go_enter Tryz.func176, Tryz.ntmps176; go_wp2; go_ret2; exact ⟨zq3, zq5⟩
  ·rw [if_neg c4] at H
   have c4b0 : (a0 == (-9223372036854775808)) = false := beq_eq_false_iff_ne.mpr c4; have c4b1 : (a0 != (-9223372036854775808)) = true := bne_iff_ne.mpr c4; simp only [Option.some.injEq, Prod.mk.injEq] at H; obtain ⟨rfl, rfl⟩ := H; go_enter Tryz.func176, Tryz.ntmps176; go_wp2; go_ret2; exact ⟨zq3, zq5⟩
def r01_Rem.f (a0 : Int) (a1 : Int) : Option (Int × Int) := if a1 = 0 then (some (0, 11)) else (if a1 = (-1) then (some (0, 0)) else (some (Int.tmod a0 a1, 0)))
theorem r01_Rem.calls (a0 : Int) (a1 : Int) (r1 : Int) (r2 : Int) (w : World) (h : r01_Rem.f a0 a1 = some (r1, r2)) :
  Calls Tryz.prog 177 #[.int .i64 a0, .int .i64 a1] w fun e w' => e = .returned (.tuple #[.int .i64 r1, .int .i64 r2]) ∧ Drawn0 w w' := by
 have H : (if a1 = 0 then (some (0, 11)) else (if a1 = (-1) then (some (0, 0)) else (some (Int.tmod a0 a1, 0)))) = some (r1, r2) := h; clear h
 by_cases c3 : a1 = 0
 ·rw [if_pos c3] at H
  have c3b0 : (a1 == 0) = true := beq_iff_eq.mpr c3; have c3b1 : (a1 != 0) = false := bne_eq_false_iff_eq.mpr c3; clear c3; simp only [Option.some.injEq, Prod.mk.injEq] at H; obtain ⟨rfl, rfl⟩ := H; go_enter Tryz.func177, Tryz.ntmps177; go_wp2; go_ret2; exact ⟨zq3, zq5⟩
 ·rw [if_neg c3] at H
  have c3b0 : (a1 == 0) = false := beq_eq_false_iff_ne.mpr c3; have c3b1 : (a1 != 0) = true := bne_iff_ne.mpr c3
  by_cases c4 : a1 = (-1)
  ·rw [if_pos c4] at H
   have c4b0 : (a1 == (-1)) = true := beq_iff_eq.mpr c4; have c4b1 : (a1 != (-1)) = false := bne_eq_false_iff_eq.mpr c4; clear c4; simp only [Option.some.injEq, Prod.mk.injEq] at H; obtain ⟨rfl, rfl⟩ := H; go_enter Tryz.func177, Tryz.ntmps177; go_wp2; go_ret2; exact ⟨zq3, zq5⟩
  ·rw [if_neg c4] at H
   have c4b0 : (a1 == (-1)) = false := beq_eq_false_iff_ne.mpr c4; have c4b1 : (a1 != (-1)) = true := bne_iff_ne.mpr c4; simp only [Option.some.injEq, Prod.mk.injEq] at H; obtain ⟨rfl, rfl⟩ := H; go_enter Tryz.func177, Tryz.ntmps177; go_wp2; go_ret2; exact ⟨zq3, zq5⟩
end Go.Proofs.YtmkgecapkeojaaaGreat.PDa
end
