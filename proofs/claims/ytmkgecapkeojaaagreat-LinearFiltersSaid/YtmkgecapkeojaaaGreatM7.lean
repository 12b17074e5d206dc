/- Texts of this claim, put together by a program: PDax13, PDax14. -/
import Derived.Test.YtmkgecapkeojaaaGreatM6
set_option linter.unusedVariables false
set_option linter.unusedSimpArgs false
set_option maxHeartbeats 8000000
set_option maxRecDepth 100000
section
namespace Go.Proofs.YtmkgecapkeojaaaGreat.PDa
open Go.RowKit Go.Proofs.YtmkgecapkeojaaaGreatW.PrintWords Go.Proofs.YtmkgecapkeojaaaGreatW.PrintLast Go.Proofs.YtmkgecapkeojaaaGreatW.PrintMore
attribute [local go_sem] max2_int min2_int max_two min_two max_three min_three max_four min_four
mutual
def r10_May.l0 : Nat → List (S41) → Int → Option (Bool)
 | 0, _, _ => none
 | k + 1, x0, x3 => if x3 < (x0.length : Int) then (if 0 ≤ x3 then ((r06_May.f k ((rd_T41 x0 x3).f0)).bind fun t253 => (if t253 = true then ((r09_May.f k (([(⟨(rd_T41 x0 x3).f1, (rd_T41 x0 x3).f2⟩ : S85)] : List (S85)))).bind fun t259 => (r10_May.j1 k x0 x3 (!t259))) else (r10_May.j1 k x0 x3 true))) else (none)) else ((r10_Rows.f k x0).bind fun t265 => (r10_May.l1 k x0 t265 0))
def r10_May.j1 : Nat → List (S41) → Int → Bool → Option (Bool)
 | 0, _, _, _ => none
 | k + 1, x0, x3, x38 => if x38 = true then (some false) else (if x3 = 0 then (r10_May.l0 k x0 (wrap64 (x3 + 1))) else (if 0 ≤ (wrap64 (x3 - 1)) then (if (wrap64 (x3 - 1)) < (x0.length : Int) then (if 0 ≤ x3 then (if x3 < (x0.length : Int) then ((r06_Compare.f k ((rd_T41 x0 (wrap64 (x3 - 1))).f0) ((rd_T41 x0 x3).f0)).bind fun t262 => (if t262 > 0 then (some false) else (if t262 = 0 then (if ((rd_T41 x0 (wrap64 (x3 - 1))).f1) ≥ ((rd_T41 x0 x3).f1) then (some false) else (r10_May.l0 k x0 (wrap64 (x3 + 1)))) else (r10_May.l0 k x0 (wrap64 (x3 + 1)))))) else (none)) else (none)) else (none)) else (none)))
def r10_May.l1 : Nat → List (S41) → List (List (S65)) → Int → Option (Bool)
 | 0, _, _, _ => none
 | k + 1, x0, x5, x6 => if x6 < (x5.length : Int) then (if 0 ≤ x6 then ((r10_Jumps.f k x0 (rd_L3 x5 x6)).bind fun t269 => (if (t269.length : Int) > 1024 then (some false) else (r10_May.l1 k x0 x5 (wrap64 (x6 + 1))))) else (none)) else (some true)
end
def r10_May.f (k : Nat) (l0 : List (S41)) : Option (Bool) := if (l0.length : Int) > 4096 then (some false) else (r10_May.l0 k l0 0)
def r10_May.T6 : Bool × List (List Nat × List Nat) := (true, [([], []), ([], []), ([0, 1], [0, 1]), ([2], [2]), ([3], [3]), ([4], [4]), ([5], [5]), ([6, 5], [6]), ([7], [7]), ([7], [7]), ([8, 9, 7], [7, 8, 9]), ([10, 7], [7, 10]), ([11, 7], [7, 11]), ([7], [7]), ([7], [7]), ([13, 14, 7], [7, 13, 14]), ([15, 7], [7, 15]), ([16, 7], [7, 16]), ([12, 17, 7], [7, 12, 17]), ([18, 7], [7, 18]), ([19, 7, 7], [7, 19]), ([20, 7], [7, 20]), ([7, 21], [7, 21])])
def r10_May.B6 : List Nat := [0, 0, 3, 7, 15, 31, 63, 127, 255, 255, 1023, 2047, 4095, 255, 255, 24831, 57599, 123135, 262143, 524287, 1048575, 2097151, 4194303]
theorem r10_May.tab6 : rtab .any (opsOf Tryz.f50 6) = r10_May.T6 := by kernel_rfl
theorem r10_May.bits6 : waitsOk r10_May.T6.2 r10_May.B6 = true := by kernel_rfl
def r10_May.T9 : Bool × List (List Nat × List Nat) := (true, [([], []), ([], []), ([1], [1]), ([0, 2], [0, 2]), ([3], [3]), ([4], [4]), ([], []), ([], []), ([6, 7], [6, 7]), ([8], [8]), ([9], [9]), ([5, 10], [5, 10]), ([11, 11, 0, 1, 2, 3, 4, 5, 6, 7, 8, 9, 10, 11], [11])])
def r10_May.B9 : List Nat := [0, 0, 2, 7, 15, 31, 0, 0, 192, 448, 960, 2047, 4095]
theorem r10_May.tab9 : rtab .any (opsOf Tryz.f50 9) = r10_May.T9 := by kernel_rfl
theorem r10_May.bits9 : waitsOk r10_May.T9.2 r10_May.B9 = true := by kernel_rfl
def r10_May.T10 : Bool × List (List Nat × List Nat) := (true, [([], []), ([0], [0]), ([1], [1]), ([2], [2]), ([3, 2], [2, 3]), ([4, 2, 2], [2, 4]), ([5], [5]), ([5], [5]), ([7, 5], [5, 7]), ([6, 8, 5], [5, 6, 8]), ([9, 5], [5, 9]), ([10, 5], [5, 10]), ([5], [5]), ([5], [5]), ([12, 13, 5], [5, 12, 13]), ([14, 5], [5, 14]), ([15, 5], [5, 15]), ([11, 16, 5], [5, 11, 16]), ([5, 17, 2], [2, 5, 17]), ([2, 18], [2, 18])])
def r10_May.B10 : List Nat := [0, 1, 3, 7, 15, 31, 63, 63, 191, 511, 1023, 2047, 63, 63, 12351, 28735, 61503, 131071, 262143, 524287]
theorem r10_May.tab10 : rtab .any (opsOf Tryz.f50 10) = r10_May.T10 := by kernel_rfl
theorem r10_May.bits10 : waitsOk r10_May.T10.2 r10_May.B10 = true := by kernel_rfl
theorem r10_May.calls (k : Nat) (A0 : Option Addr) (c0 : Nat) (l0 : List (S41)) (r : Bool) (w : World) (hr0 : Kd.C k41 w A0 l0.length l0) (hc0 : l0.length ≤ c0) (h : r10_May.f k l0 = some r) :
  Calls Tryz.prog 50 #[.slice A0 l0.length c0] w fun e w' => e = .returned (.bool r) ∧ Below w.heap.size w w' := by
 have hu85 := Tryz.underlying85; have HR0 := Aside0.mk hr0; have HC0 := Aside0.mk hc0; clear hr0 hc0; have HB := Aside0.mk (Below.refl w.heap.size w); have H : (if (l0.length : Int) > 4096 then (some false) else (r10_May.l0 k l0 0)) = some r := h; clear h
 by_cases c2 : (l0.length : Int) > 4096
 ·rw [if_pos c2] at H
  have c2b0 : decide (4096 < (l0.length : Int)) = true := decide_eq_true c2; have c2b1 : decide (4096 < l0.length) = true := decide_eq_true zq4; clear c2; obtain rfl := Option.some.inj H; go_enter Tryz.func50, Tryz.ntmps50; go_wp2; go_ret; exact ⟨zq2, zq0⟩
 ·rw [if_neg c2] at H
  have c2b0 : decide (4096 < (l0.length : Int)) = false := decide_eq_false c2; have c2b1 : decide (4096 < l0.length) = false := decide_eq_false zq4; clear c2; have H' := Aside0.mk H; clear H; go_enter Tryz.func50, Tryz.ntmps50; go_wp2
  go_loopg [3] k (fun kq v3 w' => ∃ (x3_1 : Int), v3 = .int .i64 x3_1 ∧ Aside0 (r10_May.l0 kq l0 x3_1 = some r) ∧ Aside0 (kq ≤ k) ∧ Aside0 (Below w.heap.size w w'))
  case atStart => exact ⟨(0), zq3, H', ⟨Nat.le_refl _⟩, ⟨zq0⟩⟩
  case round =>
   clear H'
   try clear c2
   try clear c2b0
   try clear c2b1
   try clear p2
   obtain ⟨x3_1, rfl, HA, HK1, HB⟩ := hrel; cases gk with
   | zero => exact absurd HA.out (by simp [r10_May.l0])
   | succ k1 =>
    have H := HA.out; clear HA; simp only [r10_May.l0] at H
    by_cases c3 : x3_1 < (l0.length : Int)
    ·rw [if_pos c3] at H
     have c3b0 : decide (x3_1 < (l0.length : Int)) = true := decide_eq_true c3; clear c3; have HC4 := Aside0.mk H; clear H
     go_upto_region 6 with (fail)
     go_cut [38] (fun v38 wc => ∃ (kq : Nat) (x38_3 : Bool), v38 = .bool x38_3 ∧ Aside0 (r10_May.j1 kq l0 x3_1 x38_3 = some r) ∧ Aside0 (kq ≤ k1) ∧ Aside0 (Below w.heap.size w wc))
     case first =>
      have H := HC4.out; clear HC4
      by_cases c5 : 0 ≤ x3_1
      ·rw [if_pos c5] at H
       have c5b0 : decide (0 ≤ x3_1) = true := decide_eq_true c5; clear c5
       (first | rw [c5b0] | (simp only [i64_w, i32_w]; rw [c5b0]) | skip)
       replace H := Option.bind_eq_some_iff.mp H; obtain ⟨t253, A60, H⟩ := H; replace H : (if t253 = true then ((r09_May.f k1 (([(⟨(rd_T41 l0 x3_1).f1, (rd_T41 l0 x3_1).f2⟩ : S85)] : List (S85)))).bind fun t259 => (r10_May.j1 k1 l0 x3_1 (!t259))) else (r10_May.j1 k1 l0 x3_1 true)) = some r := H; have A6 := Aside0.mk A60; clear A60
       by_cases c7 : t253 = true
       ·subst c7
        have H1 : ((r09_May.f k1 (([(⟨(rd_T41 l0 x3_1).f1, (rd_T41 l0 x3_1).f2⟩ : S85)] : List (S85)))).bind fun t259 => (r10_May.j1 k1 l0 x3_1 (!t259))) = some r := by rw [if_pos rfl] at H; exact H
        clear H; have H := H1; clear H1; obtain ⟨y256, hy256⟩ : ∃ y_ : List (S85), y_ = (([(⟨(rd_T41 l0 x3_1).f1, (rd_T41 l0 x3_1).f2⟩ : S85)] : List (S85))) := ⟨_, rfl⟩
        replace H : ((r09_May.f k1 y256).bind fun t259 => (r10_May.j1 k1 l0 x3_1 (!t259))) = some r := by first | (rw [hy256]; with_reducible exact H) | (have H2_ := (Option.bind_some _ _).symm.trans H; rw [hy256]; with_reducible exact H2_) | (have H2_ := (Option.bind_some _ _).symm.trans H; with_reducible exact H2_) | with_reducible exact H | (rw [hy256]; exact H) | exact H
        have Ny256 := Aside0.mk hy256; clear hy256; replace H := Option.bind_eq_some_iff.mp H; obtain ⟨t259, A80, H⟩ := H; replace H : (r10_May.j1 k1 l0 x3_1 (!t259)) = some r := H; have A8 := Aside0.mk A80; clear A80; have H' := Aside0.mk H; clear H
        try go_wp2
        replace HB := Aside0.mk (below_drew1 HB.out); have p252 : 0 ≤ (x3_1 : Int) := of_decide_eq_true zq1; have q252 : x3_1 < (l0.length : Int) := of_decide_eq_true zq1; obtain ⟨ad252, A252_0, c252_0, e252, hx252_0, hx252_1, hx252_2, hl252_0, hi252_0⟩ := at_T41 HR0.out x3_1 p252 q252; have hw252_2 := hx252_2; have hw252_1 := hx252_1; have hw252_0 := hx252_0; cases e252; replace hx252_0 := hZ hx252_0 HB.out; replace hx252_1 := hZ hx252_1 HB.out; replace hx252_2 := hZ hx252_2 HB.out; have HR252_0 := Aside0.mk hi252_0; have HC252_0 := Aside0.mk hl252_0; clear hi252_0 hl252_0; replace p252 := eq_true p252; replace q252 := eq_true q252; have p254 : 0 ≤ (x3_1 : Int) := of_decide_eq_true zq1; have q254 : x3_1 < (l0.length : Int) := of_decide_eq_true zq1; obtain ⟨ad254, A254_0, c254_0, e254, hx254_0, hx254_1, hx254_2, hl254_0, hi254_0⟩ := at_T41 HR0.out x3_1 p254 q254; have hw254_2 := hx254_2; have hw254_1 := hx254_1; have hw254_0 := hx254_0; obtain rfl : ad252 = ad254 := (by injection e254)
        replace hx254_0 := hZ hx254_0 HB.out; replace hx254_1 := hZ hx254_1 HB.out; replace hx254_2 := hZ hx254_2 HB.out; have HR254_0 := Aside0.mk hi254_0; have HC254_0 := Aside0.mk hl254_0; clear hi254_0 hl254_0; replace p254 := eq_true p254; replace q254 := eq_true q254; have p255 : 0 ≤ (x3_1 : Int) := of_decide_eq_true zq1; have q255 : x3_1 < (l0.length : Int) := of_decide_eq_true zq1; obtain ⟨ad255, A255_0, c255_0, e255, hx255_0, hx255_1, hx255_2, hl255_0, hi255_0⟩ := at_T41 HR0.out x3_1 p255 q255; have hw255_2 := hx255_2; have hw255_1 := hx255_1; have hw255_0 := hx255_0; obtain rfl : ad252 = ad255 := (by injection e255)
        replace hx255_0 := hZ hx255_0 HB.out; replace hx255_1 := hZ hx255_1 HB.out; replace hx255_2 := hZ hx255_2 HB.out; have HR255_0 := Aside0.mk hi255_0; have HC255_0 := Aside0.mk hl255_0; clear hi255_0 hl255_0; replace p255 := eq_true p255; replace q255 := eq_true q255; have ea_ := Option.some.inj (hx254_0.symm.trans hx255_0); injection ea_ with ea_ en_ ec_
        subst ea_; subst ec_; clear en_; refine start_ (n := 23) (S := fun w' => w'.cell? (ad252.add ((x3_1).toNat * 3)) = some (.slice A252_0 ((rd_T41 l0 x3_1).f0).length c252_0) ∧ w'.cell? ⟨(ad252.add ((x3_1).toNat * 3)).block, (ad252.add ((x3_1).toNat * 3)).off + 1, none⟩ = some (.int .i64 ((rd_T41 l0 x3_1).f1)) ∧ w'.cell? ⟨(ad252.add ((x3_1).toNat * 3)).block, (ad252.add ((x3_1).toNat * 3)).off + 2, none⟩ = some (.int .i64 ((rd_T41 l0 x3_1).f2)) ∧ w'.cell? (ad252.add ((x3_1).toNat * 3)) = some (.slice A254_0 ((rd_T41 l0 x3_1).f0).length c254_0) ∧ w'.cell? ⟨(ad252.add ((x3_1).toNat * 3)).block, (ad252.add ((x3_1).toNat * 3)).off + 1, none⟩ = some (.int .i64 ((rd_T41 l0 x3_1).f1)) ∧ w'.cell? ⟨(ad252.add ((x3_1).toNat * 3)).block, (ad252.add ((x3_1).toNat * 3)).off + 2, none⟩ = some (.int .i64 ((rd_T41 l0 x3_1).f2)) ∧ w'.cell? (ad252.add ((x3_1).toNat * 3)) = some (.slice A254_0 ((rd_T41 l0 x3_1).f0).length c254_0) ∧ w'.cell? ⟨(ad252.add ((x3_1).toNat * 3)).block, (ad252.add ((x3_1).toNat * 3)).off + 1, none⟩ = some (.int .i64 ((rd_T41 l0 x3_1).f1)) ∧ w'.cell? ⟨(ad252.add ((x3_1).toNat * 3)).block, (ad252.add ((x3_1).toNat * 3)).off + 2, none⟩ = some (.int .i64 ((rd_T41 l0 x3_1).f2))) (ds := []) #[false, false, false, false, false, false, false, false, false, false, false, false, false, false, false, false, false, false, false, false, false, false, false] zq17 rfl rfl ⟨hZ hw252_0 HB.out, hZ hw252_1 HB.out, hZ hw252_2 HB.out, hZ hw254_0 HB.out, hZ hw254_1 HB.out, hZ hw254_2 HB.out, hZ hw255_0 HB.out, hZ hw255_1 HB.out, hZ hw255_2 HB.out⟩ (fun hHeld => ?_); refine with_tabW r10_May.tab6 r10_May.bits6 (fun HT_ HW_ => ?_)
        generalize wr.drew = w9 at HB HR252_0 HR254_0 HR255_0 hx252_0 hx252_1 hx252_2 hx254_0 hx254_1 hx254_2 hx255_0 hx255_1 hx255_2 hHeld ⊢; refine pZ 0 16 ?_; refine pZ 1 17 ?_; refine pZ 2 18 ?_; refine pZ 3 19 ?_; refine tZ9 4 20 ?_; refine oZ 5 21 (fun K hK => ?_); refine gY Tryz.func69 #[.slice A252_0 ((rd_T41 l0 x3_1).f0).length c252_0] ?_
        with_reducible refine (r06_May.calls k1 _ _ ((rd_T41 l0 x3_1).f0) true _ ?side1 ?side2 A6.out).mono ?_
        (case side1 => exact cQ (Kd.C_below HR252_0.out HB.out))
        (case side2 => exact HC252_0.out)
        rintro e w10 ⟨rfl, hb⟩; refine ⟨_, rfl, ?_⟩; replace HB := BB HB hb
        (try clear hb)
        refine hK.out _ _ ⟨hZ hw252_0 HB.out, hZ hw252_1 HB.out, hZ hw252_2 HB.out, hZ hw254_0 HB.out, hZ hw254_1 HB.out, hZ hw254_2 HB.out, hZ hw255_0 HB.out, hZ hw255_1 HB.out, hZ hw255_2 HB.out⟩ (fun hHeld => ?_); clear hK K; refine nZ 21 ?_; refine pZ 6 22 ?_; refine pZ 7 23 ?_; refine pZ 8 24 ?_; refine pZ 9 25 ?_; refine pZ 10 26 ?_; refine pZ 11 27 ?_; refine pZ 13 29 ?_; refine pZ 14 30 ?_; refine pZ 15 31 ?_; refine pZ 16 32 ?_; refine tZ9 12 28 ?_; refine tZ9 17 33 ?_; refine pZ 18 34 ?_; refine oZ 19 35 (fun K hK => ?_); refine Kd.R_lit_step k85 _ 85 ?hg (N := 35) ?hd (xs := ([(⟨(rd_T41 l0 x3_1).f1, (rd_T41 l0 x3_1).f2⟩ : S85)] : List (S85))) (inner := [.int .i64 ((rd_T41 l0 x3_1).f1), .int .i64 ((rd_T41 l0 x3_1).f2)]) (ok := fun _ => True) (okp := fun _ => True) ?hr ?hp (fun _ hk => hk) trivial (Below.refl _ _) (Nat.le_refl _) zq30 ?_; (case hd => rfl); (case hg => rfl); (case hr => first | (go_simp; done) | (go_simp; rfl)); (case hp => exact (Reps.c2 (show Kd.M k85 _ _ _ (⟨(rd_T41 l0 x3_1).f1, (rd_T41 l0 x3_1).f2⟩ : S85) [.int .i64 ((rd_T41 l0 x3_1).f1), .int .i64 ((rd_T41 l0 x3_1).f2)] from (k85_mkM _ _ _ (⟨(rd_T41 l0 x3_1).f1, (rd_T41 l0 x3_1).f2⟩ : S85) )) (Reps.none _ _)))
        intro v257 w11 ho12 hb hg_ hnew_; clear hg_ hnew_
        (first | rw [← Ny256.out] at ho12 | (simp only [Int.reduceToNat] at ho12; rw [← Ny256.out] at ho12))
        have HO258 := Aside0.mk (Kd.R_lower ho12 (below_size zq0)); replace HB := BB HB hb; clear hb ho12; obtain ⟨Ao13, co13, eo13⟩ := Kd.R_slice HO258.out
        (first | subst eo13 | (injection eo13 with f1_ f2_ f3_; have f4_ := f1_.symm; have f5_ := f3_.symm; clear f1_ f2_ f3_; subst f4_; subst f5_))
        refine hK.out _ _ ⟨hZ hw252_0 HB.out, hZ hw252_1 HB.out, hZ hw252_2 HB.out, hZ hw254_0 HB.out, hZ hw254_1 HB.out, hZ hw254_2 HB.out, hZ hw255_0 HB.out, hZ hw255_1 HB.out, hZ hw255_2 HB.out⟩ (fun hHeld => ?_); clear hK K; refine nZ 35 ?_; refine oZ 20 36 (fun K hK => ?_); refine gY Tryz.func79 #[.slice Ao13 y256.length co13] ?_
        with_reducible refine (r09_May.calls k1 _ _ y256 t259 _ ?side1 ?side2 A8.out).mono ?_
        (case side1 => repeat (first | exact (Kd.R_reads' HO258.out).2.2 | (with_reducible refine Kd.C_alloc ?_ _) | (with_reducible refine Kd.C_drewN ?_ _) | (with_reducible refine Kd.C_drew ?_)))
        (case side2 => exact (Kd.R_reads' HO258.out).2.1)
        rintro e w' ⟨rfl, ⟨nd, rfl⟩⟩; refine ⟨_, rfl, ?_⟩; refine hK.out _ _ ⟨hZ hw252_0 HB.out, hZ hw252_1 HB.out, hZ hw252_2 HB.out, hZ hw254_0 HB.out, hZ hw254_1 HB.out, hZ hw254_2 HB.out, hZ hw255_0 HB.out, hZ hw255_1 HB.out, hZ hw255_2 HB.out⟩ (fun hHeld => ?_); clear hK K; refine nZ 36 ?_; refine pZ 21 37 ?_; refine pZ 22 38 ?_; refine done_ (done_of HT_.out zq17) ?_
        try go_wp2
        go_meet
        case rel => exact ⟨_, (!t259), zq3, H', ⟨by have := HK1.out; first | omega | exact Nat.le_refl _⟩, ⟨zq0⟩⟩
       ·replace c7 := Bool.eq_false_iff.mpr c7
        subst c7; have H1 : (r10_May.j1 k1 l0 x3_1 true) = some r := by rw [if_neg (show ¬ (false = true) by decide)] at H; exact H
        clear H; have H := H1; clear H1; have H' := Aside0.mk H; clear H
        try go_wp2
        replace HB := Aside0.mk (below_drew1 HB.out); have p252 : 0 ≤ (x3_1 : Int) := of_decide_eq_true zq1; have q252 : x3_1 < (l0.length : Int) := of_decide_eq_true zq1; obtain ⟨ad252, A252_0, c252_0, e252, hx252_0, hx252_1, hx252_2, hl252_0, hi252_0⟩ := at_T41 HR0.out x3_1 p252 q252; have hw252_2 := hx252_2; have hw252_1 := hx252_1; have hw252_0 := hx252_0; cases e252; replace hx252_0 := hZ hx252_0 HB.out; replace hx252_1 := hZ hx252_1 HB.out; replace hx252_2 := hZ hx252_2 HB.out; have HR252_0 := Aside0.mk hi252_0; have HC252_0 := Aside0.mk hl252_0; clear hi252_0 hl252_0; replace p252 := eq_true p252; replace q252 := eq_true q252; refine start_ (n := 23) (S := fun w' => w'.cell? (ad252.add ((x3_1).toNat * 3)) = some (.slice A252_0 ((rd_T41 l0 x3_1).f0).length c252_0) ∧ w'.cell? ⟨(ad252.add ((x3_1).toNat * 3)).block, (ad252.add ((x3_1).toNat * 3)).off + 1, none⟩ = some (.int .i64 ((rd_T41 l0 x3_1).f1)) ∧ w'.cell? ⟨(ad252.add ((x3_1).toNat * 3)).block, (ad252.add ((x3_1).toNat * 3)).off + 2, none⟩ = some (.int .i64 ((rd_T41 l0 x3_1).f2))) (ds := []) #[false, false, false, false, false, false, false, false, false, false, false, false, false, false, false, false, false, false, false, false, false, false, false] zq17 rfl rfl ⟨hZ hw252_0 HB.out, hZ hw252_1 HB.out, hZ hw252_2 HB.out⟩ (fun hHeld => ?_); refine with_tabW r10_May.tab6 r10_May.bits6 (fun HT_ HW_ => ?_)
        generalize wr.drew = w14 at HB HR252_0 hx252_0 hx252_1 hx252_2 hHeld ⊢; refine pZ 0 16 ?_; refine pZ 1 17 ?_; refine pZ 2 18 ?_; refine pZ 3 19 ?_; refine tZ3 4 20 ?_; refine oZ 5 21 (fun K hK => ?_); refine gY Tryz.func69 #[.slice A252_0 ((rd_T41 l0 x3_1).f0).length c252_0] ?_
        with_reducible refine (r06_May.calls k1 _ _ ((rd_T41 l0 x3_1).f0) false _ ?side1 ?side2 A6.out).mono ?_
        (case side1 => exact cQ (Kd.C_below HR252_0.out HB.out))
        (case side2 => exact HC252_0.out)
        rintro e w15 ⟨rfl, hb⟩; refine ⟨_, rfl, ?_⟩; replace HB := BB HB hb
        (try clear hb)
        refine hK.out _ _ ⟨hZ hw252_0 HB.out, hZ hw252_1 HB.out, hZ hw252_2 HB.out⟩ (fun hHeld => ?_); clear hK K; refine nZ 21 ?_; refine pZ 6 22 ?_; refine pZ 7 23 ?_; refine uZ 8 24 ?_; refine uZ 9 25 ?_; refine uZ 10 26 ?_; refine uZ 11 27 ?_; refine uZ 12 28 ?_; refine uZ 13 29 ?_; refine uZ 14 30 ?_; refine uZ 15 31 ?_; refine uZ 16 32 ?_; refine uZ 17 33 ?_; refine uZ 18 34 ?_; refine uZ 19 35 ?_; refine uZ 20 36 ?_; refine uZ 21 37 ?_; refine pZ 22 38 ?_; refine done_ (done_of HT_.out zq17) ?_
        try go_wp2
        go_meet
        case rel => exact ⟨_, (true), zq3, H', ⟨by have := HK1.out; first | omega | exact Nat.le_refl _⟩, ⟨zq0⟩⟩
      ·rw [if_neg c5] at H
       exact absurd H zq30
     case rest =>
      clear HC4
      try clear c2
      try clear c2b0
      try clear c2b1
      try clear p2
      try clear q2
      try clear hx2
      try clear c3
      try clear c3b0
      try clear c5
      try clear c5b0
      try clear c6
      try clear c7
      try clear hx252_0
      try clear hx252_1
      try clear hx252_2
      try clear hx254_0
      try clear hx254_1
      try clear hx254_2
      try clear hx255_0
      try clear hx255_1
      try clear hx255_2
      try clear p2
      try clear p252
      try clear p254
      try clear p255
      try clear q252
      try clear q254
      try clear q255
      obtain ⟨kq, x38_3, rfl, HA, HJ3, HB⟩ := hcut; cases kq with
      | zero => exact absurd HA.out (by simp [r10_May.j1])
      | succ kj3 =>
       have H := HA.out; clear HA; simp only [r10_May.j1] at H
       by_cases c16 : x38_3 = true
       ·subst c16
        have H1 : (some false) = some r := by rw [if_pos rfl] at H; exact H
        clear H; have H := H1; clear H1; obtain rfl := Option.some.inj H; go_wp2; go_ret; exact ⟨zq2, zq0⟩
       ·replace c16 := Bool.eq_false_iff.mpr c16
        subst c16; have H1 : (if x3_1 = 0 then (r10_May.l0 kj3 l0 (wrap64 (x3_1 + 1))) else (if 0 ≤ (wrap64 (x3_1 - 1)) then (if (wrap64 (x3_1 - 1)) < (l0.length : Int) then (if 0 ≤ x3_1 then (if x3_1 < (l0.length : Int) then ((r06_Compare.f kj3 ((rd_T41 l0 (wrap64 (x3_1 - 1))).f0) ((rd_T41 l0 x3_1).f0)).bind fun t262 => (if t262 > 0 then (some false) else (if t262 = 0 then (if ((rd_T41 l0 (wrap64 (x3_1 - 1))).f1) ≥ ((rd_T41 l0 x3_1).f1) then (some false) else (r10_May.l0 kj3 l0 (wrap64 (x3_1 + 1)))) else (r10_May.l0 kj3 l0 (wrap64 (x3_1 + 1)))))) else (none)) else (none)) else (none)) else (none))) = some r := by rw [if_neg (show ¬ (false = true) by decide)] at H; exact H
        clear H; have H := H1; clear H1
        by_cases c17 : x3_1 = 0
        ·rw [if_pos c17] at H
         have c17b0 : (x3_1 == 0) = true := beq_iff_eq.mpr c17; have c17b1 : (x3_1 != 0) = false := bne_eq_false_iff_eq.mpr c17; clear c17; have H' := Aside0.mk H; clear H; go_wp2
         go_roundg kj3
         case measure => have := HK1.out; have := HJ3.out; omega
         case rel => exact ⟨(wrap64 (x3_1 + 1)), zq3, H', ⟨by have := HK1.out; have := HJ3.out; omega⟩, ⟨zq0⟩⟩
        ·rw [if_neg c17] at H
         have c17b0 : (x3_1 == 0) = false := beq_eq_false_iff_ne.mpr c17; have c17b1 : (x3_1 != 0) = true := bne_iff_ne.mpr c17; obtain ⟨ji18, hji18⟩ : ∃ j_ : Int, (wrap64 (x3_1 - 1)) = j_ := ⟨_, rfl⟩
         replace H : (if 0 ≤ (ji18) then (if (ji18) < (l0.length : Int) then (if 0 ≤ x3_1 then (if x3_1 < (l0.length : Int) then ((r06_Compare.f kj3 ((rd_T41 l0 (ji18)).f0) ((rd_T41 l0 x3_1).f0)).bind fun t262 => (if t262 > 0 then (some false) else (if t262 = 0 then (if ((rd_T41 l0 (ji18)).f1) ≥ ((rd_T41 l0 x3_1).f1) then (some false) else (r10_May.l0 kj3 l0 (wrap64 (x3_1 + 1)))) else (r10_May.l0 kj3 l0 (wrap64 (x3_1 + 1)))))) else (none)) else (none)) else (none)) else (none)) = some r := by first | (rw [hji18] at H; exact H) | (simp only [hji18] at H ⊢; exact H)
         have hji18w : (IntKind.i64.wrap (x3_1 - 1)) = ji18 := (i64_w _).trans hji18
         by_cases c19 : 0 ≤ (ji18)
         ·rw [if_pos c19] at H
          have c19b0 : decide (0 ≤ (ji18)) = true := decide_eq_true c19; clear c19
          by_cases c20 : (ji18) < (l0.length : Int)
          ·rw [if_pos c20] at H
           have c20b0 : decide ((ji18) < (l0.length : Int)) = true := decide_eq_true c20; clear c20
           by_cases c21 : 0 ≤ x3_1
           ·rw [if_pos c21] at H
            have c21b0 : decide (0 ≤ x3_1) = true := decide_eq_true c21; clear c21
            by_cases c22 : x3_1 < (l0.length : Int)
            ·rw [if_pos c22] at H
             have c22b0 : decide (x3_1 < (l0.length : Int)) = true := decide_eq_true c22; clear c22; replace H := Option.bind_eq_some_iff.mp H; obtain ⟨t262, A230, H⟩ := H; replace H : (if t262 > 0 then (some false) else (if t262 = 0 then (if ((rd_T41 l0 (ji18)).f1) ≥ ((rd_T41 l0 x3_1).f1) then (some false) else (r10_May.l0 kj3 l0 (wrap64 (x3_1 + 1)))) else (r10_May.l0 kj3 l0 (wrap64 (x3_1 + 1))))) = some r := H; have A23 := Aside0.mk A230; clear A230
             by_cases c24 : t262 > 0
             ·rw [if_pos c24] at H
              have c24b0 : decide (0 < t262) = true := decide_eq_true c24; clear c24; obtain rfl := Option.some.inj H
              try go_wp2
              replace HB := Aside0.mk (below_drew1 HB.out); have p260 : 0 ≤ ((ji18) : Int) := of_decide_eq_true zq1; have q260 : (ji18) < (l0.length : Int) := of_decide_eq_true zq1; obtain ⟨ad260, A260_0, c260_0, e260, hx260_0, hx260_1, hx260_2, hl260_0, hi260_0⟩ := at_T41 HR0.out (ji18) p260 q260; have hw260_2 := hx260_2; have hw260_1 := hx260_1; have hw260_0 := hx260_0; cases e260; replace hx260_0 := hZ hx260_0 HB.out; replace hx260_1 := hZ hx260_1 HB.out; replace hx260_2 := hZ hx260_2 HB.out; have HR260_0 := Aside0.mk hi260_0; have HC260_0 := Aside0.mk hl260_0; clear hi260_0 hl260_0; replace p260 := eq_true p260; replace q260 := eq_true q260; have p261 : 0 ≤ (x3_1 : Int) := of_decide_eq_true zq1; have q261 : x3_1 < (l0.length : Int) := of_decide_eq_true zq1; obtain ⟨ad261, A261_0, c261_0, e261, hx261_0, hx261_1, hx261_2, hl261_0, hi261_0⟩ := at_T41 HR0.out x3_1 p261 q261; have hw261_2 := hx261_2; have hw261_1 := hx261_1; have hw261_0 := hx261_0; obtain rfl : ad260 = ad261 := (by injection e261)
              replace hx261_0 := hZ hx261_0 HB.out; replace hx261_1 := hZ hx261_1 HB.out; replace hx261_2 := hZ hx261_2 HB.out; have HR261_0 := Aside0.mk hi261_0; have HC261_0 := Aside0.mk hl261_0; clear hi261_0 hl261_0; replace p261 := eq_true p261; replace q261 := eq_true q261; refine start_ (n := 13) (S := fun w' => w'.cell? (ad260.add (((ji18)).toNat * 3)) = some (.slice A260_0 ((rd_T41 l0 (ji18)).f0).length c260_0) ∧ w'.cell? ⟨(ad260.add (((ji18)).toNat * 3)).block, (ad260.add (((ji18)).toNat * 3)).off + 1, none⟩ = some (.int .i64 ((rd_T41 l0 (ji18)).f1)) ∧ w'.cell? ⟨(ad260.add (((ji18)).toNat * 3)).block, (ad260.add (((ji18)).toNat * 3)).off + 2, none⟩ = some (.int .i64 ((rd_T41 l0 (ji18)).f2)) ∧ w'.cell? (ad260.add ((x3_1).toNat * 3)) = some (.slice A261_0 ((rd_T41 l0 x3_1).f0).length c261_0) ∧ w'.cell? ⟨(ad260.add ((x3_1).toNat * 3)).block, (ad260.add ((x3_1).toNat * 3)).off + 1, none⟩ = some (.int .i64 ((rd_T41 l0 x3_1).f1)) ∧ w'.cell? ⟨(ad260.add ((x3_1).toNat * 3)).block, (ad260.add ((x3_1).toNat * 3)).off + 2, none⟩ = some (.int .i64 ((rd_T41 l0 x3_1).f2))) (ds := []) #[false, false, false, false, false, false, false, false, false, false, false, false, false] zq17 rfl rfl ⟨hZ hw260_0 HB.out, hZ hw260_1 HB.out, hZ hw260_2 HB.out, hZ hw261_0 HB.out, hZ hw261_1 HB.out, hZ hw261_2 HB.out⟩ (fun hHeld => ?_); refine with_tabW r10_May.tab9 r10_May.bits9 (fun HT_ HW_ => ?_)
              generalize wc.drew = w25 at HB HR260_0 HR261_0 hx260_0 hx260_1 hx260_2 hx261_0 hx261_1 hx261_2 hHeld ⊢; refine pZ 0 41 ?_; refine pZ 1 42 ?_; refine pZ 2 43 ?_; refine pZ 3 44 ?_; refine pZ 4 45 ?_; refine pZ 6 47 ?_; refine pZ 7 48 ?_; refine pZ 8 49 ?_; refine pZ 9 50 ?_; refine tZ6 5 46 ?_; refine tZ6 10 51 ?_; refine oZ 11 52 (fun K hK => ?_); refine goes_ Tryz.func87 zq17 rfl #[.slice A260_0 ((rd_T41 l0 (ji18)).f0).length c260_0, .slice A261_0 ((rd_T41 l0 x3_1).f0).length c261_0] (by rfl) rfl rfl zq47 ?_
              with_reducible refine (r06_Compare.calls kj3 _ _ ((rd_T41 l0 (ji18)).f0) _ _ ((rd_T41 l0 x3_1).f0) t262 _ ?side1 ?side2 ?side3 ?side4 A23.out).mono ?_
              (case side1 => exact cQ (Kd.C_below HR260_0.out HB.out))
              (case side2 => exact HC260_0.out)
              (case side3 => exact cQ (Kd.C_below HR261_0.out HB.out))
              (case side4 => exact HC261_0.out)
              rintro e w26 ⟨rfl, hb⟩; refine ⟨_, rfl, ?_⟩; replace HB := BB HB hb
              (try clear hb)
              refine hK.out _ _ ⟨hZ hw260_0 HB.out, hZ hw260_1 HB.out, hZ hw260_2 HB.out, hZ hw261_0 HB.out, hZ hw261_1 HB.out, hZ hw261_2 HB.out⟩ (fun hHeld => ?_); clear hK K; refine nZ 52 ?_; refine pZ 12 4 ?_; refine done_ (done_of HT_.out zq17) ?_
              try go_wp2
              replace HB := Aside0.mk (below_drew1 HB.out); refine start_ (n := 20) (S := fun w' => True) (ds := []) #[false, false, false, false, false, false, false, false, false, false, false, false, false, false, false, false, false, false, false, false] zq17 rfl rfl trivial (fun hHeld => ?_); refine with_tabW r10_May.tab10 r10_May.bits10 (fun HT_ HW_ => ?_)
              generalize w26.drew = w27 at HB hHeld ⊢; refine pZ 0 53 ?_; refine pZ 1 54 ?_; refine pZ 2 55 ?_; refine uZ 3 56 ?_; refine uZ 4 57 ?_; refine uZ 5 58 ?_; refine uZ 6 59 ?_; refine uZ 7 60 ?_; refine uZ 8 61 ?_; refine uZ 9 62 ?_; refine uZ 10 63 ?_; refine uZ 11 64 ?_; refine uZ 12 65 ?_; refine uZ 13 66 ?_; refine uZ 14 67 ?_; refine uZ 15 68 ?_; refine uZ 16 69 ?_; refine uZ 17 70 ?_; refine uZ 18 71 ?_; refine pZ 19 72 ?_; refine done_ (done_of HT_.out zq17) ?_
              try go_wp2
              go_ret; exact ⟨zq85, zq0⟩
             ·rw [if_neg c24] at H
              have c24b0 : decide (0 < t262) = false := decide_eq_false c24; clear c24
              by_cases c28 : t262 = 0
              ·rw [if_pos c28] at H
               have c28b0 : (t262 == 0) = true := beq_iff_eq.mpr c28; have c28b1 : (t262 != 0) = false := bne_eq_false_iff_eq.mpr c28; clear c28
               by_cases c29 : ((rd_T41 l0 (ji18)).f1) ≥ ((rd_T41 l0 x3_1).f1)
               ·rw [if_pos c29] at H
                have c29b0 : decide (((rd_T41 l0 x3_1).f1) ≤ ((rd_T41 l0 (ji18)).f1)) = true := decide_eq_true c29; clear c29; obtain rfl := Option.some.inj H
                try go_wp2
                replace HB := Aside0.mk (below_drew1 HB.out); have p260 : 0 ≤ ((ji18) : Int) := of_decide_eq_true zq1; have q260 : (ji18) < (l0.length : Int) := of_decide_eq_true zq1; obtain ⟨ad260, A260_0, c260_0, e260, hx260_0, hx260_1, hx260_2, hl260_0, hi260_0⟩ := at_T41 HR0.out (ji18) p260 q260; have hw260_2 := hx260_2; have hw260_1 := hx260_1; have hw260_0 := hx260_0; cases e260; replace hx260_0 := hZ hx260_0 HB.out; replace hx260_1 := hZ hx260_1 HB.out; replace hx260_2 := hZ hx260_2 HB.out; have HR260_0 := Aside0.mk hi260_0; have HC260_0 := Aside0.mk hl260_0; clear hi260_0 hl260_0; replace p260 := eq_true p260; replace q260 := eq_true q260; have p261 : 0 ≤ (x3_1 : Int) := of_decide_eq_true zq1; have q261 : x3_1 < (l0.length : Int) := of_decide_eq_true zq1; obtain ⟨ad261, A261_0, c261_0, e261, hx261_0, hx261_1, hx261_2, hl261_0, hi261_0⟩ := at_T41 HR0.out x3_1 p261 q261; have hw261_2 := hx261_2; have hw261_1 := hx261_1; have hw261_0 := hx261_0; obtain rfl : ad260 = ad261 := (by injection e261)
                replace hx261_0 := hZ hx261_0 HB.out; replace hx261_1 := hZ hx261_1 HB.out; replace hx261_2 := hZ hx261_2 HB.out; have HR261_0 := Aside0.mk hi261_0; have HC261_0 := Aside0.mk hl261_0; clear hi261_0 hl261_0; replace p261 := eq_true p261; replace q261 := eq_true q261; refine start_ (n := 13) (S := fun w' => w'.cell? (ad260.add (((ji18)).toNat * 3)) = some (.slice A260_0 ((rd_T41 l0 (ji18)).f0).length c260_0) ∧ w'.cell? ⟨(ad260.add (((ji18)).toNat * 3)).block, (ad260.add (((ji18)).toNat * 3)).off + 1, none⟩ = some (.int .i64 ((rd_T41 l0 (ji18)).f1)) ∧ w'.cell? ⟨(ad260.add (((ji18)).toNat * 3)).block, (ad260.add (((ji18)).toNat * 3)).off + 2, none⟩ = some (.int .i64 ((rd_T41 l0 (ji18)).f2)) ∧ w'.cell? (ad260.add ((x3_1).toNat * 3)) = some (.slice A261_0 ((rd_T41 l0 x3_1).f0).length c261_0) ∧ w'.cell? ⟨(ad260.add ((x3_1).toNat * 3)).block, (ad260.add ((x3_1).toNat * 3)).off + 1, none⟩ = some (.int .i64 ((rd_T41 l0 x3_1).f1)) ∧ w'.cell? ⟨(ad260.add ((x3_1).toNat * 3)).block, (ad260.add ((x3_1).toNat * 3)).off + 2, none⟩ = some (.int .i64 ((rd_T41 l0 x3_1).f2))) (ds := []) #[false, false, false, false, false, false, false, false, false, false, false, false, false] zq17 rfl rfl ⟨hZ hw260_0 HB.out, hZ hw260_1 HB.out, hZ hw260_2 HB.out, hZ hw261_0 HB.out, hZ hw261_1 HB.out, hZ hw261_2 HB.out⟩ (fun hHeld => ?_); refine with_tabW r10_May.tab9 r10_May.bits9 (fun HT_ HW_ => ?_)
                generalize wc.drew = w30 at HB HR260_0 HR261_0 hx260_0 hx260_1 hx260_2 hx261_0 hx261_1 hx261_2 hHeld ⊢; refine pZ 0 41 ?_; refine pZ 1 42 ?_; refine pZ 2 43 ?_; refine pZ 3 44 ?_; refine pZ 4 45 ?_; refine pZ 6 47 ?_; refine pZ 7 48 ?_; refine pZ 8 49 ?_; refine pZ 9 50 ?_; refine tZ6 5 46 ?_; refine tZ6 10 51 ?_; refine oZ 11 52 (fun K hK => ?_); refine goes_ Tryz.func87 zq17 rfl #[.slice A260_0 ((rd_T41 l0 (ji18)).f0).length c260_0, .slice A261_0 ((rd_T41 l0 x3_1).f0).length c261_0] (by rfl) rfl rfl zq47 ?_
                with_reducible refine (r06_Compare.calls kj3 _ _ ((rd_T41 l0 (ji18)).f0) _ _ ((rd_T41 l0 x3_1).f0) t262 _ ?side1 ?side2 ?side3 ?side4 A23.out).mono ?_
                (case side1 => exact cQ (Kd.C_below HR260_0.out HB.out))
                (case side2 => exact HC260_0.out)
                (case side3 => exact cQ (Kd.C_below HR261_0.out HB.out))
                (case side4 => exact HC261_0.out)
                rintro e w31 ⟨rfl, hb⟩; refine ⟨_, rfl, ?_⟩; replace HB := BB HB hb
                (try clear hb)
                refine hK.out _ _ ⟨hZ hw260_0 HB.out, hZ hw260_1 HB.out, hZ hw260_2 HB.out, hZ hw261_0 HB.out, hZ hw261_1 HB.out, hZ hw261_2 HB.out⟩ (fun hHeld => ?_); clear hK K; refine nZ 52 ?_; refine pZ 12 4 ?_; refine done_ (done_of HT_.out zq17) ?_
                try go_wp2
                replace HB := Aside0.mk (below_drew1 HB.out); have p263 : 0 ≤ ((ji18) : Int) := of_decide_eq_true zq1; have q263 : (ji18) < (l0.length : Int) := of_decide_eq_true zq1; obtain ⟨ad263, A263_0, c263_0, e263, hx263_0, hx263_1, hx263_2, hl263_0, hi263_0⟩ := at_T41 HR0.out (ji18) p263 q263; have hw263_2 := hx263_2; have hw263_1 := hx263_1; have hw263_0 := hx263_0; obtain rfl : ad260 = ad263 := (by injection e263)
                replace hx263_0 := hZ hx263_0 HB.out; replace hx263_1 := hZ hx263_1 HB.out; replace hx263_2 := hZ hx263_2 HB.out; have HR263_0 := Aside0.mk hi263_0; have HC263_0 := Aside0.mk hl263_0; clear hi263_0 hl263_0; replace p263 := eq_true p263; replace q263 := eq_true q263; have p264 : 0 ≤ (x3_1 : Int) := of_decide_eq_true zq1; have q264 : x3_1 < (l0.length : Int) := of_decide_eq_true zq1; obtain ⟨ad264, A264_0, c264_0, e264, hx264_0, hx264_1, hx264_2, hl264_0, hi264_0⟩ := at_T41 HR0.out x3_1 p264 q264; have hw264_2 := hx264_2; have hw264_1 := hx264_1; have hw264_0 := hx264_0; obtain rfl : ad260 = ad264 := (by injection e264)
                replace hx264_0 := hZ hx264_0 HB.out; replace hx264_1 := hZ hx264_1 HB.out; replace hx264_2 := hZ hx264_2 HB.out; have HR264_0 := Aside0.mk hi264_0; have HC264_0 := Aside0.mk hl264_0; clear hi264_0 hl264_0; replace p264 := eq_true p264; replace q264 := eq_true q264; refine start_ (n := 20) (S := fun w' => w'.cell? (ad260.add (((ji18)).toNat * 3)) = some (.slice A263_0 ((rd_T41 l0 (ji18)).f0).length c263_0) ∧ w'.cell? ⟨(ad260.add (((ji18)).toNat * 3)).block, (ad260.add (((ji18)).toNat * 3)).off + 1, none⟩ = some (.int .i64 ((rd_T41 l0 (ji18)).f1)) ∧ w'.cell? ⟨(ad260.add (((ji18)).toNat * 3)).block, (ad260.add (((ji18)).toNat * 3)).off + 2, none⟩ = some (.int .i64 ((rd_T41 l0 (ji18)).f2)) ∧ w'.cell? (ad260.add ((x3_1).toNat * 3)) = some (.slice A264_0 ((rd_T41 l0 x3_1).f0).length c264_0) ∧ w'.cell? ⟨(ad260.add ((x3_1).toNat * 3)).block, (ad260.add ((x3_1).toNat * 3)).off + 1, none⟩ = some (.int .i64 ((rd_T41 l0 x3_1).f1)) ∧ w'.cell? ⟨(ad260.add ((x3_1).toNat * 3)).block, (ad260.add ((x3_1).toNat * 3)).off + 2, none⟩ = some (.int .i64 ((rd_T41 l0 x3_1).f2))) (ds := []) #[false, false, false, false, false, false, false, false, false, false, false, false, false, false, false, false, false, false, false, false] zq17 rfl rfl ⟨hZ hw263_0 HB.out, hZ hw263_1 HB.out, hZ hw263_2 HB.out, hZ hw264_0 HB.out, hZ hw264_1 HB.out, hZ hw264_2 HB.out⟩ (fun hHeld => ?_); refine with_tabW r10_May.tab10 r10_May.bits10 (fun HT_ HW_ => ?_)
                generalize w31.drew = w32 at HB HR263_0 HR264_0 hx263_0 hx263_1 hx263_2 hx264_0 hx264_1 hx264_2 hHeld ⊢; refine pZ 0 53 ?_; refine pZ 1 54 ?_; refine pZ 2 55 ?_; refine pZ 3 56 ?_; refine pZ 4 57 ?_; refine pZ 5 58 ?_; refine pZ 6 59 ?_; refine pZ 7 60 ?_; refine pZ 8 61 ?_; refine pZ 9 62 ?_; refine pZ 10 63 ?_; refine pZ 12 65 ?_; refine pZ 13 66 ?_; refine pZ 14 67 ?_; refine pZ 15 68 ?_; refine tZ6 11 64 ?_; refine tZ6 16 69 ?_; refine pZ 17 70 ?_; refine pZ 18 71 ?_; refine pZ 19 72 ?_; refine done_ (done_of HT_.out zq17) ?_
                try go_wp2
                go_ret; exact ⟨zq85, zq0⟩
               ·rw [if_neg c29] at H
                have c29b0 : decide (((rd_T41 l0 x3_1).f1) ≤ ((rd_T41 l0 (ji18)).f1)) = false := decide_eq_false c29; clear c29; have H' := Aside0.mk H; clear H
                try go_wp2
                replace HB := Aside0.mk (below_drew1 HB.out); have p260 : 0 ≤ ((ji18) : Int) := of_decide_eq_true zq1; have q260 : (ji18) < (l0.length : Int) := of_decide_eq_true zq1; obtain ⟨ad260, A260_0, c260_0, e260, hx260_0, hx260_1, hx260_2, hl260_0, hi260_0⟩ := at_T41 HR0.out (ji18) p260 q260; have hw260_2 := hx260_2; have hw260_1 := hx260_1; have hw260_0 := hx260_0; cases e260; replace hx260_0 := hZ hx260_0 HB.out; replace hx260_1 := hZ hx260_1 HB.out; replace hx260_2 := hZ hx260_2 HB.out; have HR260_0 := Aside0.mk hi260_0; have HC260_0 := Aside0.mk hl260_0; clear hi260_0 hl260_0; replace p260 := eq_true p260; replace q260 := eq_true q260; have p261 : 0 ≤ (x3_1 : Int) := of_decide_eq_true zq1; have q261 : x3_1 < (l0.length : Int) := of_decide_eq_true zq1; obtain ⟨ad261, A261_0, c261_0, e261, hx261_0, hx261_1, hx261_2, hl261_0, hi261_0⟩ := at_T41 HR0.out x3_1 p261 q261; have hw261_2 := hx261_2; have hw261_1 := hx261_1; have hw261_0 := hx261_0; obtain rfl : ad260 = ad261 := (by injection e261)
                replace hx261_0 := hZ hx261_0 HB.out; replace hx261_1 := hZ hx261_1 HB.out; replace hx261_2 := hZ hx261_2 HB.out; have HR261_0 := Aside0.mk hi261_0; have HC261_0 := Aside0.mk hl261_0; clear hi261_0 hl261_0; replace p261 := eq_true p261; replace q261 := eq_true q261; refine start_ (n := 13) (S := fun w' => w'.cell? (ad260.add (((ji18)).toNat * 3)) = some (.slice A260_0 ((rd_T41 l0 (ji18)).f0).length c260_0) ∧ w'.cell? ⟨(ad260.add (((ji18)).toNat * 3)).block, (ad260.add (((ji18)).toNat * 3)).off + 1, none⟩ = some (.int .i64 ((rd_T41 l0 (ji18)).f1)) ∧ w'.cell? ⟨(ad260.add (((ji18)).toNat * 3)).block, (ad260.add (((ji18)).toNat * 3)).off + 2, none⟩ = some (.int .i64 ((rd_T41 l0 (ji18)).f2)) ∧ w'.cell? (ad260.add ((x3_1).toNat * 3)) = some (.slice A261_0 ((rd_T41 l0 x3_1).f0).length c261_0) ∧ w'.cell? ⟨(ad260.add ((x3_1).toNat * 3)).block, (ad260.add ((x3_1).toNat * 3)).off + 1, none⟩ = some (.int .i64 ((rd_T41 l0 x3_1).f1)) ∧ w'.cell? ⟨(ad260.add ((x3_1).toNat * 3)).block, (ad260.add ((x3_1).toNat * 3)).off + 2, none⟩ = some (.int .i64 ((rd_T41 l0 x3_1).f2))) (ds := []) #[false, false, false, false, false, false, false, false, false, false, false, false, false] zq17 rfl rfl ⟨hZ hw260_0 HB.out, hZ hw260_1 HB.out, hZ hw260_2 HB.out, hZ hw261_0 HB.out, hZ hw261_1 HB.out, hZ hw261_2 HB.out⟩ (fun hHeld => ?_); refine with_tabW r10_May.tab9 r10_May.bits9 (fun HT_ HW_ => ?_)
                generalize wc.drew = w33 at HB HR260_0 HR261_0 hx260_0 hx260_1 hx260_2 hx261_0 hx261_1 hx261_2 hHeld ⊢; refine pZ 0 41 ?_; refine pZ 1 42 ?_; refine pZ 2 43 ?_; refine pZ 3 44 ?_; refine pZ 4 45 ?_; refine pZ 6 47 ?_; refine pZ 7 48 ?_; refine pZ 8 49 ?_; refine pZ 9 50 ?_; refine tZ6 5 46 ?_; refine tZ6 10 51 ?_; refine oZ 11 52 (fun K hK => ?_); refine goes_ Tryz.func87 zq17 rfl #[.slice A260_0 ((rd_T41 l0 (ji18)).f0).length c260_0, .slice A261_0 ((rd_T41 l0 x3_1).f0).length c261_0] (by rfl) rfl rfl zq47 ?_
                with_reducible refine (r06_Compare.calls kj3 _ _ ((rd_T41 l0 (ji18)).f0) _ _ ((rd_T41 l0 x3_1).f0) t262 _ ?side1 ?side2 ?side3 ?side4 A23.out).mono ?_
                (case side1 => exact cQ (Kd.C_below HR260_0.out HB.out))
                (case side2 => exact HC260_0.out)
                (case side3 => exact cQ (Kd.C_below HR261_0.out HB.out))
                (case side4 => exact HC261_0.out)
                rintro e w34 ⟨rfl, hb⟩; refine ⟨_, rfl, ?_⟩; replace HB := BB HB hb
                (try clear hb)
                refine hK.out _ _ ⟨hZ hw260_0 HB.out, hZ hw260_1 HB.out, hZ hw260_2 HB.out, hZ hw261_0 HB.out, hZ hw261_1 HB.out, hZ hw261_2 HB.out⟩ (fun hHeld => ?_); clear hK K; refine nZ 52 ?_; refine pZ 12 4 ?_; refine done_ (done_of HT_.out zq17) ?_
                try go_wp2
                replace HB := Aside0.mk (below_drew1 HB.out); have p263 : 0 ≤ ((ji18) : Int) := of_decide_eq_true zq1; have q263 : (ji18) < (l0.length : Int) := of_decide_eq_true zq1; obtain ⟨ad263, A263_0, c263_0, e263, hx263_0, hx263_1, hx263_2, hl263_0, hi263_0⟩ := at_T41 HR0.out (ji18) p263 q263; have hw263_2 := hx263_2; have hw263_1 := hx263_1; have hw263_0 := hx263_0; obtain rfl : ad260 = ad263 := (by injection e263)
                replace hx263_0 := hZ hx263_0 HB.out; replace hx263_1 := hZ hx263_1 HB.out; replace hx263_2 := hZ hx263_2 HB.out; have HR263_0 := Aside0.mk hi263_0; have HC263_0 := Aside0.mk hl263_0; clear hi263_0 hl263_0; replace p263 := eq_true p263; replace q263 := eq_true q263; have p264 : 0 ≤ (x3_1 : Int) := of_decide_eq_true zq1; have q264 : x3_1 < (l0.length : Int) := of_decide_eq_true zq1; obtain ⟨ad264, A264_0, c264_0, e264, hx264_0, hx264_1, hx264_2, hl264_0, hi264_0⟩ := at_T41 HR0.out x3_1 p264 q264; have hw264_2 := hx264_2; have hw264_1 := hx264_1; have hw264_0 := hx264_0; obtain rfl : ad260 = ad264 := (by injection e264)
                replace hx264_0 := hZ hx264_0 HB.out; replace hx264_1 := hZ hx264_1 HB.out; replace hx264_2 := hZ hx264_2 HB.out; have HR264_0 := Aside0.mk hi264_0; have HC264_0 := Aside0.mk hl264_0; clear hi264_0 hl264_0; replace p264 := eq_true p264; replace q264 := eq_true q264; refine start_ (n := 20) (S := fun w' => w'.cell? (ad260.add (((ji18)).toNat * 3)) = some (.slice A263_0 ((rd_T41 l0 (ji18)).f0).length c263_0) ∧ w'.cell? ⟨(ad260.add (((ji18)).toNat * 3)).block, (ad260.add (((ji18)).toNat * 3)).off + 1, none⟩ = some (.int .i64 ((rd_T41 l0 (ji18)).f1)) ∧ w'.cell? ⟨(ad260.add (((ji18)).toNat * 3)).block, (ad260.add (((ji18)).toNat * 3)).off + 2, none⟩ = some (.int .i64 ((rd_T41 l0 (ji18)).f2)) ∧ w'.cell? (ad260.add ((x3_1).toNat * 3)) = some (.slice A264_0 ((rd_T41 l0 x3_1).f0).length c264_0) ∧ w'.cell? ⟨(ad260.add ((x3_1).toNat * 3)).block, (ad260.add ((x3_1).toNat * 3)).off + 1, none⟩ = some (.int .i64 ((rd_T41 l0 x3_1).f1)) ∧ w'.cell? ⟨(ad260.add ((x3_1).toNat * 3)).block, (ad260.add ((x3_1).toNat * 3)).off + 2, none⟩ = some (.int .i64 ((rd_T41 l0 x3_1).f2))) (ds := []) #[false, false, false, false, false, false, false, false, false, false, false, false, false, false, false, false, false, false, false, false] zq17 rfl rfl ⟨hZ hw263_0 HB.out, hZ hw263_1 HB.out, hZ hw263_2 HB.out, hZ hw264_0 HB.out, hZ hw264_1 HB.out, hZ hw264_2 HB.out⟩ (fun hHeld => ?_); refine with_tabW r10_May.tab10 r10_May.bits10 (fun HT_ HW_ => ?_)
                generalize w34.drew = w35 at HB HR263_0 HR264_0 hx263_0 hx263_1 hx263_2 hx264_0 hx264_1 hx264_2 hHeld ⊢; refine pZ 0 53 ?_; refine pZ 1 54 ?_; refine pZ 2 55 ?_; refine pZ 3 56 ?_; refine pZ 4 57 ?_; refine pZ 5 58 ?_; refine pZ 6 59 ?_; refine pZ 7 60 ?_; refine pZ 8 61 ?_; refine pZ 9 62 ?_; refine pZ 10 63 ?_; refine pZ 12 65 ?_; refine pZ 13 66 ?_; refine pZ 14 67 ?_; refine pZ 15 68 ?_; refine tZ6 11 64 ?_; refine tZ6 16 69 ?_; refine pZ 17 70 ?_; refine pZ 18 71 ?_; refine pZ 19 72 ?_; refine done_ (done_of HT_.out zq17) ?_
                try go_wp2
                go_roundg kj3
                case measure => have := HK1.out; have := HJ3.out; omega
                case rel => exact ⟨(wrap64 (x3_1 + 1)), zq3, H', ⟨by have := HK1.out; have := HJ3.out; omega⟩, ⟨zq0⟩⟩
              ·rw [if_neg c28] at H
               have c28b0 : (t262 == 0) = false := beq_eq_false_iff_ne.mpr c28; have c28b1 : (t262 != 0) = true := bne_iff_ne.mpr c28; have H' := Aside0.mk H; clear H
               try go_wp2
               replace HB := Aside0.mk (below_drew1 HB.out); have p260 : 0 ≤ ((ji18) : Int) := of_decide_eq_true zq1; have q260 : (ji18) < (l0.length : Int) := of_decide_eq_true zq1; obtain ⟨ad260, A260_0, c260_0, e260, hx260_0, hx260_1, hx260_2, hl260_0, hi260_0⟩ := at_T41 HR0.out (ji18) p260 q260; have hw260_2 := hx260_2; have hw260_1 := hx260_1; have hw260_0 := hx260_0; cases e260; replace hx260_0 := hZ hx260_0 HB.out; replace hx260_1 := hZ hx260_1 HB.out; replace hx260_2 := hZ hx260_2 HB.out; have HR260_0 := Aside0.mk hi260_0; have HC260_0 := Aside0.mk hl260_0; clear hi260_0 hl260_0; replace p260 := eq_true p260; replace q260 := eq_true q260; have p261 : 0 ≤ (x3_1 : Int) := of_decide_eq_true zq1; have q261 : x3_1 < (l0.length : Int) := of_decide_eq_true zq1; obtain ⟨ad261, A261_0, c261_0, e261, hx261_0, hx261_1, hx261_2, hl261_0, hi261_0⟩ := at_T41 HR0.out x3_1 p261 q261; have hw261_2 := hx261_2; have hw261_1 := hx261_1; have hw261_0 := hx261_0; obtain rfl : ad260 = ad261 := (by injection e261)
               replace hx261_0 := hZ hx261_0 HB.out; replace hx261_1 := hZ hx261_1 HB.out; replace hx261_2 := hZ hx261_2 HB.out; have HR261_0 := Aside0.mk hi261_0; have HC261_0 := Aside0.mk hl261_0; clear hi261_0 hl261_0; replace p261 := eq_true p261; replace q261 := eq_true q261; refine start_ (n := 13) (S := fun w' => w'.cell? (ad260.add (((ji18)).toNat * 3)) = some (.slice A260_0 ((rd_T41 l0 (ji18)).f0).length c260_0) ∧ w'.cell? ⟨(ad260.add (((ji18)).toNat * 3)).block, (ad260.add (((ji18)).toNat * 3)).off + 1, none⟩ = some (.int .i64 ((rd_T41 l0 (ji18)).f1)) ∧ w'.cell? ⟨(ad260.add (((ji18)).toNat * 3)).block, (ad260.add (((ji18)).toNat * 3)).off + 2, none⟩ = some (.int .i64 ((rd_T41 l0 (ji18)).f2)) ∧ w'.cell? (ad260.add ((x3_1).toNat * 3)) = some (.slice A261_0 ((rd_T41 l0 x3_1).f0).length c261_0) ∧ w'.cell? ⟨(ad260.add ((x3_1).toNat * 3)).block, (ad260.add ((x3_1).toNat * 3)).off + 1, none⟩ = some (.int .i64 ((rd_T41 l0 x3_1).f1)) ∧ w'.cell? ⟨(ad260.add ((x3_1).toNat * 3)).block, (ad260.add ((x3_1).toNat * 3)).off + 2, none⟩ = some (.int .i64 ((rd_T41 l0 x3_1).f2))) (ds := []) #[false, false, false, false, false, false, false, false, false, false, false, false, false] zq17 rfl rfl ⟨hZ hw260_0 HB.out, hZ hw260_1 HB.out, hZ hw260_2 HB.out, hZ hw261_0 HB.out, hZ hw261_1 HB.out, hZ hw261_2 HB.out⟩ (fun hHeld => ?_); refine with_tabW r10_May.tab9 r10_May.bits9 (fun HT_ HW_ => ?_)
               generalize wc.drew = w36 at HB HR260_0 HR261_0 hx260_0 hx260_1 hx260_2 hx261_0 hx261_1 hx261_2 hHeld ⊢; refine pZ 0 41 ?_; refine pZ 1 42 ?_; refine pZ 2 43 ?_; refine pZ 3 44 ?_; refine pZ 4 45 ?_; refine pZ 6 47 ?_; refine pZ 7 48 ?_; refine pZ 8 49 ?_; refine pZ 9 50 ?_; refine tZ6 5 46 ?_; refine tZ6 10 51 ?_; refine oZ 11 52 (fun K hK => ?_); refine goes_ Tryz.func87 zq17 rfl #[.slice A260_0 ((rd_T41 l0 (ji18)).f0).length c260_0, .slice A261_0 ((rd_T41 l0 x3_1).f0).length c261_0] (by rfl) rfl rfl zq47 ?_
               with_reducible refine (r06_Compare.calls kj3 _ _ ((rd_T41 l0 (ji18)).f0) _ _ ((rd_T41 l0 x3_1).f0) t262 _ ?side1 ?side2 ?side3 ?side4 A23.out).mono ?_
               (case side1 => exact cQ (Kd.C_below HR260_0.out HB.out))
               (case side2 => exact HC260_0.out)
               (case side3 => exact cQ (Kd.C_below HR261_0.out HB.out))
               (case side4 => exact HC261_0.out)
               rintro e w37 ⟨rfl, hb⟩; refine ⟨_, rfl, ?_⟩; replace HB := BB HB hb
               (try clear hb)
               refine hK.out _ _ ⟨hZ hw260_0 HB.out, hZ hw260_1 HB.out, hZ hw260_2 HB.out, hZ hw261_0 HB.out, hZ hw261_1 HB.out, hZ hw261_2 HB.out⟩ (fun hHeld => ?_); clear hK K; refine nZ 52 ?_; refine pZ 12 4 ?_; refine done_ (done_of HT_.out zq17) ?_
               try go_wp2
               replace HB := Aside0.mk (below_drew1 HB.out); refine start_ (n := 20) (S := fun w' => True) (ds := []) #[false, false, false, false, false, false, false, false, false, false, false, false, false, false, false, false, false, false, false, false] zq17 rfl rfl trivial (fun hHeld => ?_); refine with_tabW r10_May.tab10 r10_May.bits10 (fun HT_ HW_ => ?_)
               generalize w37.drew = w38 at HB hHeld ⊢; refine pZ 0 53 ?_; refine pZ 1 54 ?_; refine pZ 2 55 ?_; refine pZ 3 56 ?_; refine pZ 4 57 ?_; refine pZ 5 58 ?_; refine uZ 6 59 ?_; refine uZ 7 60 ?_; refine uZ 8 61 ?_; refine uZ 9 62 ?_; refine uZ 10 63 ?_; refine uZ 11 64 ?_; refine uZ 12 65 ?_; refine uZ 13 66 ?_; refine uZ 14 67 ?_; refine uZ 15 68 ?_; refine uZ 16 69 ?_; refine uZ 17 70 ?_; refine pZ 18 71 ?_; refine pZ 19 72 ?_; refine done_ (done_of HT_.out zq17) ?_
               try go_wp2
               go_roundg kj3
               case measure => have := HK1.out; have := HJ3.out; omega
               case rel => exact ⟨(wrap64 (x3_1 + 1)), zq3, H', ⟨by have := HK1.out; have := HJ3.out; omega⟩, ⟨zq0⟩⟩
            ·rw [if_neg c22] at H
             exact absurd H zq30
           ·rw [if_neg c21] at H
            exact absurd H zq30
          ·rw [if_neg c20] at H
           exact absurd H zq30
         ·rw [if_neg c19] at H
          exact absurd H zq30
    ·rw [if_neg c3] at H
     have c3b0 : decide (x3_1 < (l0.length : Int)) = false := decide_eq_false c3; clear c3; replace H := Option.bind_eq_some_iff.mp H; obtain ⟨t265, A390, H⟩ := H; replace H : (r10_May.l1 k1 l0 t265 0) = some r := H; have A39 := Aside0.mk A390; clear A390; have H' := Aside0.mk H; clear H
     go_wp2_with (first | (refine gZ 74 Tryz.func66 #[.slice A0 l0.length c0] ?_; (with_reducible refine (r10_Rows.calls k1 (fun k_ => k_ < w.heap.size) _ _ l0 t265 _ ?side1 A39.out).mono ?_); (case side1 => exact Kd.V_mk HC0.out (Kd.F_below (Kd.C_F k41_heap HR0.out) zq0)); rintro e w40 ⟨v266, rfl, ho0, hb⟩; refine ⟨_, rfl, ?_⟩; have HO267 := Aside0.mk (Kd.N_lower (Kd.N_mono (ok' := fun k_ => True) ho0 (fun k_ hk_ => trivial)) (below_size zq0)); replace HB := BB HB hb; (try clear hb); (try clear ho0)))
     go_loopg [6] k1 (fun kq v6 w' => ∃ (x6_2 : Int), v6 = .int .i64 x6_2 ∧ Aside0 (r10_May.l1 kq l0 t265 x6_2 = some r) ∧ Aside0 (kq ≤ k1) ∧ Aside0 (Kd.N (Kd.slice 65 k65) 39 w' w.heap.size (fun _ => True) v266 t265) ∧ Aside0 (Below w.heap.size w w'))
     case atStart => exact ⟨(0), zq3, H', ⟨Nat.le_refl _⟩, ⟨(by (with_reducible repeat (first | apply Kd.N_alloc | apply Kd.N_drewN | apply Kd.N_drew)); exact HO267.out)⟩, ⟨zq0⟩⟩
     case round =>
      clear H'
      try clear c1
      try clear c2
      try clear p2
      try clear q2
      try clear hx2
      try clear c3
      try clear c3b0
      try clear c6
      try clear p6
      try clear c8
      try clear c19
      try clear c20
      try clear c21
      try clear c22
      try clear c26
      try clear p26
      try clear q26
      try clear hx26
      try clear c28
      try clear c28b0
      try clear c28b1
      try clear hx260_0
      try clear hx260_1
      try clear hx260_2
      try clear hx261_0
      try clear hx261_1
      try clear hx261_2
      try clear hx263_0
      try clear hx263_1
      try clear hx263_2
      try clear hx264_0
      try clear hx264_1
      try clear hx264_2
      try clear p260
      try clear p261
      try clear p263
      try clear p264
      try clear q260
      try clear q261
      try clear q263
      try clear q264
      obtain ⟨x6_2, rfl, HA, HK2, HO_5, HB⟩ := hrel; cases gk with
      | zero => exact absurd HA.out (by simp [r10_May.l1])
      | succ k2 =>
       have H := HA.out; clear HA; simp only [r10_May.l1] at H
       by_cases c41 : x6_2 < (t265.length : Int)
       ·rw [if_pos c41] at H
        have c41b0 : decide (x6_2 < (t265.length : Int)) = true := decide_eq_true c41; clear c41
        by_cases c42 : 0 ≤ x6_2
        ·rw [if_pos c42] at H
         have c42b0 : decide (0 ≤ x6_2) = true := decide_eq_true c42; clear c42; replace H := Option.bind_eq_some_iff.mp H; obtain ⟨t269, A430, H⟩ := H; replace H : (if (t269.length : Int) > 1024 then (some false) else (r10_May.l1 k2 l0 t265 (wrap64 (x6_2 + 1)))) = some r := H; have A43 := Aside0.mk A430; clear A430
         by_cases c44 : (t269.length : Int) > 1024
         ·rw [if_pos c44] at H
          have c44b0 : decide (1024 < (t269.length : Int)) = true := decide_eq_true c44; have c44b1 : decide (1024 < t269.length) = true := decide_eq_true zq4; clear c44; obtain rfl := Option.some.inj H; obtain ⟨Ao45, co45, eo45⟩ := Kd.N_slice HO_5.out; subst eo45; have p268 : 0 ≤ (x6_2 : Int) := of_decide_eq_true zq1; have q268 : x6_2 < (t265.length : Int) := of_decide_eq_true zq1; obtain ⟨ad268, A268_0, c268_0, e268, hx268_0, hl268_0, hi268_0⟩ := at_L3 (Kd.N_reads' HO_5.out).2.2 x6_2 p268 q268; cases e268; obtain ⟨ce268, hce268, hMe268, hcc268⟩ := Kd.N_get HO_5.out [] x6_2 p268 (by first | exact q268 | exact of_decide_eq_true zq1 | (have e_ := (Kd.N_reads' HO_5.out).1; omega)); obtain ⟨ua268_0, uc268_0, rfl, ul268_0, ge268_0⟩ := Kd.FK_slice_open hMe268; have hv268_0 := hcc268 0 _ rfl; rw [Nat.add_zero, show ((Kd.slice 65 k65)).sz = 1 from rfl, Nat.mul_one] at hv268_0; replace hv268_0 := Option.some.inj (hv268_0.symm.trans hx268_0); injection hv268_0 with hva_ hvn_ hvc_
          rw [hva_] at ge268_0; rw [hvc_] at ul268_0; have HL268_0 := Aside0.mk (show Kd.V k65 65 _ w.heap.size _ _ (rd_L3 t265 x6_2) from Kd.V_mk ul268_0 ge268_0); clear hva_ hvn_ hvc_ ge268_0 ul268_0; clear hcc268 hce268; have HR268_0 := Aside0.mk hi268_0; have HC268_0 := Aside0.mk hl268_0; clear hi268_0 hl268_0; replace p268 := eq_true p268; replace q268 := eq_true q268
          go_wp2_with (first | (refine gZ 86 Tryz.func26 #[.slice A0 l0.length c0, .slice A268_0 (rd_L3 t265 x6_2).length c268_0] ?_; (with_reducible refine (r10_Jumps.calls k2 _ _ l0 _ _ (rd_L3 t265 x6_2) t269 _ ?side1 ?side2 ?side3 ?side4 A43.out).mono ?_); (case side1 => exact cQ (Kd.C_below HR0.out HB.out)); (case side2 => exact HC0.out); (case side3 => exact cQ (cQ HR268_0.out)); (case side4 => exact HC268_0.out); rintro e w46 ⟨v270, rfl, ho0, hb⟩; refine ⟨_, rfl, ?_⟩; have HO271 := Aside0.mk (Kd.R_lower ho0 (below_size zq0)); replace HO_5 := Aside0.mk (Kd.N_elder' (nQ HO_5.out) (Kd.R_base ho0) hb); replace HL268_0 := Aside0.mk (Kd.V_elder' (vQ HL268_0.out) (Kd.R_base ho0) hb); replace HR268_0 := CB HR268_0 hb; replace HB := BB HB hb; (try clear hb); (try clear ho0); obtain ⟨Ao47, co47, eo47⟩ := Kd.R_slice HO271.out; subst eo47))
          go_ret; exact ⟨zq2, zq0⟩
         ·rw [if_neg c44] at H
          have c44b0 : decide (1024 < (t269.length : Int)) = false := decide_eq_false c44; have c44b1 : decide (1024 < t269.length) = false := decide_eq_false zq4; clear c44; have H' := Aside0.mk H; clear H; obtain ⟨Ao48, co48, eo48⟩ := Kd.N_slice HO_5.out; subst eo48; have p268 : 0 ≤ (x6_2 : Int) := of_decide_eq_true zq1; have q268 : x6_2 < (t265.length : Int) := of_decide_eq_true zq1; obtain ⟨ad268, A268_0, c268_0, e268, hx268_0, hl268_0, hi268_0⟩ := at_L3 (Kd.N_reads' HO_5.out).2.2 x6_2 p268 q268; cases e268; obtain ⟨ce268, hce268, hMe268, hcc268⟩ := Kd.N_get HO_5.out [] x6_2 p268 (by first | exact q268 | exact of_decide_eq_true zq1 | (have e_ := (Kd.N_reads' HO_5.out).1; omega)); obtain ⟨ua268_0, uc268_0, rfl, ul268_0, ge268_0⟩ := Kd.FK_slice_open hMe268; have hv268_0 := hcc268 0 _ rfl; rw [Nat.add_zero, show ((Kd.slice 65 k65)).sz = 1 from rfl, Nat.mul_one] at hv268_0; replace hv268_0 := Option.some.inj (hv268_0.symm.trans hx268_0); injection hv268_0 with hva_ hvn_ hvc_
          rw [hva_] at ge268_0; rw [hvc_] at ul268_0; have HL268_0 := Aside0.mk (show Kd.V k65 65 _ w.heap.size _ _ (rd_L3 t265 x6_2) from Kd.V_mk ul268_0 ge268_0); clear hva_ hvn_ hvc_ ge268_0 ul268_0; clear hcc268 hce268; have HR268_0 := Aside0.mk hi268_0; have HC268_0 := Aside0.mk hl268_0; clear hi268_0 hl268_0; replace p268 := eq_true p268; replace q268 := eq_true q268
          go_wp2_with (first | (refine gZ 86 Tryz.func26 #[.slice A0 l0.length c0, .slice A268_0 (rd_L3 t265 x6_2).length c268_0] ?_; (with_reducible refine (r10_Jumps.calls k2 _ _ l0 _ _ (rd_L3 t265 x6_2) t269 _ ?side1 ?side2 ?side3 ?side4 A43.out).mono ?_); (case side1 => exact cQ (Kd.C_below HR0.out HB.out)); (case side2 => exact HC0.out); (case side3 => exact cQ (cQ HR268_0.out)); (case side4 => exact HC268_0.out); rintro e w49 ⟨v270, rfl, ho0, hb⟩; refine ⟨_, rfl, ?_⟩; have HO271 := Aside0.mk (Kd.R_lower ho0 (below_size zq0)); replace HO_5 := Aside0.mk (Kd.N_elder' (nQ HO_5.out) (Kd.R_base ho0) hb); replace HL268_0 := Aside0.mk (Kd.V_elder' (vQ HL268_0.out) (Kd.R_base ho0) hb); replace HR268_0 := CB HR268_0 hb; replace HB := BB HB hb; (try clear hb); (try clear ho0); obtain ⟨Ao50, co50, eo50⟩ := Kd.R_slice HO271.out; subst eo50))
          go_roundg k2
          case measure => have := HK1.out; have := HK2.out; omega
          case rel => exact ⟨(wrap64 (x6_2 + 1)), zq3, H', ⟨by have := HK1.out; have := HK2.out; omega⟩, ⟨(by (with_reducible repeat (first | apply Kd.N_alloc | apply Kd.N_drewN | apply Kd.N_drew)); exact Kd.N_mono HO_5.out (fun _ hk => trivial))⟩, ⟨zq0⟩⟩
        ·rw [if_neg c42] at H
         exact absurd H zq30
       ·rw [if_neg c41] at H
        have c41b0 : decide (x6_2 < (t265.length : Int)) = false := decide_eq_false c41; clear c41; obtain rfl := Option.some.inj H; obtain ⟨Ao51, co51, eo51⟩ := Kd.N_slice HO_5.out; subst eo51; go_wp2; go_ret; exact ⟨zq2, zq0⟩
attribute [local go_sem] max2_int min2_int max_two min_two max_three min_three max_four min_four
def r17_Takes.j0 : Nat → Int → Bool → Option (Int)
 | 0, _, _ => none
 | k + 1, x0, x8 => if x8 = true then (some (-1)) else (if x0 ≤ 3 then (some 0) else (if x0 ≤ 6 then (some 1) else (some 2)))
def r17_Takes.f (k : Nat) (a0 : Int) : Option (Int) := if a0 < 1 then (r17_Takes.j0 k a0 true) else (r17_Takes.j0 k a0 (decide (a0 > 20)))
theorem r17_Takes.calls (k : Nat) (a0 : Int) (r : Int) (w : World) (h : r17_Takes.f k a0 = some r) :
  Calls Tryz.prog 130 #[.int .i64 a0] w fun e w' => e = .returned (.int .i64 r) ∧ Drawn0 w w' := by
 have H : (if a0 < 1 then (r17_Takes.j0 k a0 true) else (r17_Takes.j0 k a0 (decide (a0 > 20)))) = some r := h; clear h; have HC2 := Aside0.mk H; clear H; go_enter Tryz.func130, Tryz.ntmps130
 go_upto_region 1 with (fail)
 go_cut [8] (fun v8 wc => ∃ (kq : Nat) (x8_1 : Bool), v8 = .bool x8_1 ∧ Aside0 (r17_Takes.j0 kq a0 x8_1 = some r) ∧ Aside0 (kq ≤ k) ∧ Drawn0 w wc)
 case first =>
  have H := HC2.out; clear HC2
  by_cases c3 : a0 < 1
  ·rw [if_pos c3] at H
   have c3b0 : decide (a0 < 1) = true := decide_eq_true c3; clear c3
   (first | rw [c3b0] | (simp only [i64_w, i32_w]; rw [c3b0]) | skip)
   have H' := Aside0.mk H; clear H; go_wp2
   go_meet
   case rel => exact ⟨_, (true), zq3, H', ⟨zq32⟩, zq5⟩
  ·rw [if_neg c3] at H
   have c3b0 : decide (a0 < 1) = false := decide_eq_false c3; clear c3
   (first | rw [c3b0] | (simp only [i64_w, i32_w]; rw [c3b0]) | skip)
   have H' := Aside0.mk H; clear H; go_wp2
   go_meet
   case rel => exact ⟨_, (decide (a0 > 20)), zq3, H', ⟨zq32⟩, zq5⟩
 case rest =>
  clear HC2
  try clear c1
  try clear p2
  try clear c3
  try clear c3b0
  obtain ⟨kq, x8_1, rfl, HA, HJ1, ⟨mc1, rfl⟩⟩ := hcut; cases kq with
  | zero => exact absurd HA.out (by simp [r17_Takes.j0])
  | succ kj1 =>
   have H := HA.out; clear HA; simp only [r17_Takes.j0] at H
   by_cases c4 : x8_1 = true
   ·subst c4
    have H1 : (some (-1)) = some r := by rw [if_pos rfl] at H; exact H
    clear H; have H := H1; clear H1; obtain rfl := Option.some.inj H; go_wp2; go_ret; exact ⟨zq3, zq5⟩
   ·replace c4 := Bool.eq_false_iff.mpr c4
    subst c4; have H1 : (if a0 ≤ 3 then (some 0) else (if a0 ≤ 6 then (some 1) else (some 2))) = some r := by rw [if_neg (show ¬ (false = true) by decide)] at H; exact H
    clear H; have H := H1; clear H1
    by_cases c5 : a0 ≤ 3
    ·rw [if_pos c5] at H
     have c5b0 : decide (a0 ≤ 3) = true := decide_eq_true c5; clear c5; obtain rfl := Option.some.inj H; go_wp2; go_ret; exact ⟨zq3, zq5⟩
    ·rw [if_neg c5] at H
     have c5b0 : decide (a0 ≤ 3) = false := decide_eq_false c5; clear c5
     by_cases c6 : a0 ≤ 6
     ·rw [if_pos c6] at H
      have c6b0 : decide (a0 ≤ 6) = true := decide_eq_true c6; clear c6; obtain rfl := Option.some.inj H; go_wp2; go_ret; exact ⟨zq3, zq5⟩
     ·rw [if_neg c6] at H
      have c6b0 : decide (a0 ≤ 6) = false := decide_eq_false c6; clear c6; obtain rfl := Option.some.inj H; go_wp2; go_ret; exact ⟨zq3, zq5⟩
def r17_Word.j0 : Nat → Bool → Int → Int → ByteArray → Option (Bool)
 | 0, _, _, _, _ => none
 | k + 1, x20, x273000, x273001, x273002 => if x20 = true then (some false) else (if x273000 = 1 then (some true) else (if x273000 = 3 then (if x273001 ≥ 0 then (some (decide (x273001 < 8))) else (some false)) else (some (x273001 == 0))))
def r17_Word.f (k : Nat) (a0_0 : Int) (a0_1 : Int) (a0_2 : ByteArray) : Option (Bool) := (r17_Takes.f k a0_0).bind fun t273 => (if t273 < 0 then (some false) else (if a0_0 = 2 then (r17_Word.j0 k (decide ((a0_2.size : Int) > 64)) a0_0 a0_1 a0_2) else (if a0_2.toList = ([] : List UInt8) then (r17_Word.j0 k (decide ((a0_2.size : Int) > 64)) a0_0 a0_1 a0_2) else (r17_Word.j0 k true a0_0 a0_1 a0_2))))
theorem r17_Word.calls (k : Nat) (a0_0 : Int) (a0_1 : Int) (a0_2 : ByteArray) (r : Bool) (w : World) (h : r17_Word.f k a0_0 a0_1 a0_2 = some r) :
  Calls Tryz.prog 129 #[.agg #[.int .i64 a0_0, .int .i64 a0_1, .string a0_2]] w fun e w' => e = .returned (.bool r) ∧ Below w.heap.size w w' := by
 have hu68 := Tryz.underlying68; have HB := Aside0.mk (Below.refl w.heap.size w); have H : ((r17_Takes.f k a0_0).bind fun t273 => (if t273 < 0 then (some false) else (if a0_0 = 2 then (r17_Word.j0 k (decide ((a0_2.size : Int) > 64)) a0_0 a0_1 a0_2) else (if a0_2.toList = ([] : List UInt8) then (r17_Word.j0 k (decide ((a0_2.size : Int) > 64)) a0_0 a0_1 a0_2) else (r17_Word.j0 k true a0_0 a0_1 a0_2))))) = some r := h; clear h; replace H := Option.bind_eq_some_iff.mp H; obtain ⟨t273, A20, H⟩ := H; replace H : (if t273 < 0 then (some false) else (if a0_0 = 2 then (r17_Word.j0 k (decide ((a0_2.size : Int) > 64)) a0_0 a0_1 a0_2) else (if a0_2.toList = ([] : List UInt8) then (r17_Word.j0 k (decide ((a0_2.size : Int) > 64)) a0_0 a0_1 a0_2) else (r17_Word.j0 k true a0_0 a0_1 a0_2)))) = some r := H; have A2 := Aside0.mk A20; clear A20
 by_cases c3 : t273 < 0
 ·rw [if_pos c3] at H
  have c3b0 : decide (t273 < 0) = true := decide_eq_true c3; clear c3; obtain rfl := Option.some.inj H; go_enter Tryz.func129, Tryz.ntmps129
  go_wp2_with (first | ((with_reducible refine gate_dst (N := 1) rfl ?_); (try (refine gate_guard (by rfl) ?_; dsimp only)); refine bZ 1 #[.int .i64 a0_0, .int .i64 a0_1, .string a0_2] 68 ?_; intro gb272 hg w4 hbox hb; have BK272 := Aside0.mk (hbox); have GW272 := GB HB hg; have GE272 := GW272; replace HB := BB HB hb; clear hb hbox hg; obtain ⟨hcz5_0, hcz5_1, hcz5_2, hfz5_0, hfz5_1, hfz5_2⟩ := bL3 BK272) | (refine gZ 5 Tryz.func130 #[.int .i64 a0_0] ?_; (with_reducible refine (r17_Takes.calls k a0_0 t273 _ A2.out).mono ?_); rintro e w' ⟨rfl, ⟨nd, rfl⟩⟩; refine ⟨_, rfl, ?_⟩))
  go_ret; exact ⟨zq2, zq22⟩
 ·rw [if_neg c3] at H
  have c3b0 : decide (t273 < 0) = false := decide_eq_false c3; clear c3; have HC6 := Aside0.mk H; clear H; go_enter Tryz.func129, Tryz.ntmps129
  go_upto_region 3 with (first | ((with_reducible refine gate_dst (N := 1) rfl ?_); (try (refine gate_guard (by rfl) ?_; dsimp only)); refine bZ 1 #[.int .i64 a0_0, .int .i64 a0_1, .string a0_2] 68 ?_; intro gb272 hg w7 hbox hb; have BK272 := Aside0.mk (hbox); have GW272 := GB HB hg; have GE272 := GW272; replace HB := BB HB hb; clear hb hbox hg; obtain ⟨hcz8_0, hcz8_1, hcz8_2, hfz8_0, hfz8_1, hfz8_2⟩ := bL3 BK272) | (refine gZ 5 Tryz.func130 #[.int .i64 a0_0] ?_; (with_reducible refine (r17_Takes.calls k a0_0 t273 _ A2.out).mono ?_); rintro e w' ⟨rfl, ⟨nd, rfl⟩⟩; refine ⟨_, rfl, ?_⟩))
  (try simp only [Act.put, List.setIfInBounds_toArray, List.set_cons_zero, List.set_cons_succ])
  go_cut [20] (fun v20 wc => ∃ (kq : Nat) (x20_5 : Bool), v20 = .bool x20_5 ∧ Aside0 (r17_Word.j0 kq x20_5 a0_0 a0_1 a0_2 = some r) ∧ Aside0 (kq ≤ k) ∧ Aside0 (wc.heap[gb272]? = some (.cells #[.int .i64 a0_0, .int .i64 a0_1, .string a0_2] 68 (0, 0))) ∧ Aside0 (Below w.heap.size w wc))
  case first =>
   have H := HC6.out; clear HC6
   by_cases c9 : a0_0 = 2
   ·rw [if_pos c9] at H
    have c9b0 : (a0_0 == 2) = true := beq_iff_eq.mpr c9; have c9b1 : (a0_0 != 2) = false := bne_eq_false_iff_eq.mpr c9; clear c9
    (first | rw [c9b0] | (simp only [i64_w, i32_w]; rw [c9b0]) | skip)
    have H' := Aside0.mk H; clear H; obtain ⟨hcz10_0, hcz10_1, hcz10_2, hfz10_0, hfz10_1, hfz10_2⟩ := bL3 BK272; go_wp2
    go_meet
    case rel => exact ⟨_, (decide ((a0_2.size : Int) > 64)), zq3, H', ⟨zq32⟩, ⟨zq78⟩, ⟨zq22⟩⟩
   ·rw [if_neg c9] at H
    have c9b0 : (a0_0 == 2) = false := beq_eq_false_iff_ne.mpr c9; have c9b1 : (a0_0 != 2) = true := bne_iff_ne.mpr c9
    (first | rw [c9b0] | (simp only [i64_w, i32_w]; rw [c9b0]) | skip)
    by_cases c11 : a0_2.toList = ([] : List UInt8)
    ·rw [if_pos c11] at H
     have c11b0 : (a0_2.toList == ([] : List UInt8)) = true := beq_iff_eq.mpr c11; have c11b1 : (a0_2.toList != ([] : List UInt8)) = false := bne_eq_false_iff_eq.mpr c11; clear c11; have H' := Aside0.mk H; clear H; obtain ⟨hcz12_0, hcz12_1, hcz12_2, hfz12_0, hfz12_1, hfz12_2⟩ := bL3 BK272; go_wp2
     go_meet
     case rel => exact ⟨_, (decide ((a0_2.size : Int) > 64)), zq3, H', ⟨zq32⟩, ⟨zq78⟩, ⟨zq22⟩⟩
    ·rw [if_neg c11] at H
     have c11b0 : (a0_2.toList == ([] : List UInt8)) = false := beq_eq_false_iff_ne.mpr c11; have c11b1 : (a0_2.toList != ([] : List UInt8)) = true := bne_iff_ne.mpr c11; have H' := Aside0.mk H; clear H; obtain ⟨hcz13_0, hcz13_1, hcz13_2, hfz13_0, hfz13_1, hfz13_2⟩ := bL3 BK272; go_wp2
     go_meet
     case rel => exact ⟨_, (true), zq3, H', ⟨zq32⟩, ⟨zq78⟩, ⟨zq22⟩⟩
  case rest =>
   clear HC6
   try clear c1
   try clear p2
   try clear c3
   try clear c3b0
   try clear c9
   try clear c9b0
   try clear c9b1
   try clear c11
   try clear c11b0
   try clear c11b1
   try clear c12
   try clear c13
   try clear hcz10_0
   try clear hcz10_1
   try clear hcz10_2
   try clear hcz12_0
   try clear hcz12_1
   try clear hcz12_2
   try clear hcz13_0
   try clear hcz13_1
   try clear hcz13_2
   try clear hcz5_0
   try clear hcz5_1
   try clear hcz5_2
   try clear hcz8_0
   try clear hcz8_1
   try clear hcz8_2
   try clear hfz10_0
   try clear hfz10_1
   try clear hfz10_2
   try clear hfz12_0
   try clear hfz12_1
   try clear hfz12_2
   try clear hfz13_0
   try clear hfz13_1
   try clear hfz13_2
   try clear hfz5_0
   try clear hfz5_1
   try clear hfz5_2
   try clear hfz8_0
   try clear hfz8_1
   try clear hfz8_2
   obtain ⟨kq, x20_5, rfl, HA, HJ5, BK272, HB⟩ := hcut; cases kq with
   | zero => exact absurd HA.out (by simp [r17_Word.j0])
   | succ kj5 =>
    have H := HA.out; clear HA; simp only [r17_Word.j0] at H
    by_cases c14 : x20_5 = true
    ·subst c14
     have H1 : (some false) = some r := by rw [if_pos rfl] at H; exact H
     clear H; have H := H1; clear H1; obtain rfl := Option.some.inj H; go_wp2; go_ret; exact ⟨zq2, zq22⟩
    ·replace c14 := Bool.eq_false_iff.mpr c14
     subst c14; have H1 : (if a0_0 = 1 then (some true) else (if a0_0 = 3 then (if a0_1 ≥ 0 then (some (decide (a0_1 < 8))) else (some false)) else (some (a0_1 == 0)))) = some r := by rw [if_neg (show ¬ (false = true) by decide)] at H; exact H
     clear H; have H := H1; clear H1
     by_cases c15 : a0_0 = 1
     ·rw [if_pos c15] at H
      have c15b0 : (a0_0 == 1) = true := beq_iff_eq.mpr c15; have c15b1 : (a0_0 != 1) = false := bne_eq_false_iff_eq.mpr c15; clear c15; obtain rfl := Option.some.inj H; obtain ⟨hcz16_0, hcz16_1, hcz16_2, hfz16_0, hfz16_1, hfz16_2⟩ := bL3 BK272; go_wp2; go_ret; exact ⟨zq2, zq22⟩
     ·rw [if_neg c15] at H
      have c15b0 : (a0_0 == 1) = false := beq_eq_false_iff_ne.mpr c15; have c15b1 : (a0_0 != 1) = true := bne_iff_ne.mpr c15
      by_cases c17 : a0_0 = 3
      ·rw [if_pos c17] at H
       have c17b0 : (a0_0 == 3) = true := beq_iff_eq.mpr c17; have c17b1 : (a0_0 != 3) = false := bne_eq_false_iff_eq.mpr c17; clear c17
       by_cases c18 : a0_1 ≥ 0
       ·rw [if_pos c18] at H
        have c18b0 : decide (0 ≤ a0_1) = true := decide_eq_true c18; clear c18; obtain rfl := Option.some.inj H; obtain ⟨hcz19_0, hcz19_1, hcz19_2, hfz19_0, hfz19_1, hfz19_2⟩ := bL3 BK272; go_wp2; go_ret; exact ⟨zq2, zq22⟩
       ·rw [if_neg c18] at H
        have c18b0 : decide (0 ≤ a0_1) = false := decide_eq_false c18; clear c18; obtain rfl := Option.some.inj H; obtain ⟨hcz20_0, hcz20_1, hcz20_2, hfz20_0, hfz20_1, hfz20_2⟩ := bL3 BK272; go_wp2; go_ret; exact ⟨zq2, zq22⟩
      ·rw [if_neg c17] at H
       have c17b0 : (a0_0 == 3) = false := beq_eq_false_iff_ne.mpr c17; have c17b1 : (a0_0 != 3) = true := bne_iff_ne.mpr c17; obtain rfl := Option.some.inj H; obtain ⟨hcz21_0, hcz21_1, hcz21_2, hfz21_0, hfz21_1, hfz21_2⟩ := bL3 BK272; go_wp2; go_ret; exact ⟨zq2, zq22⟩
mutual
def r17_Tail.j0 : Nat → List (S68) → Bool → Option (Int)
 | 0, _, _ => none
 | k + 1, x0, x18 => if x18 = true then (some 0) else (r17_Tail.l0 k x0 1 0)
def r17_Tail.l0 : Nat → List (S68) → Int → Int → Option (Int)
 | 0, _, _, _ => none
 | k + 1, x0, x3, x4 => if 0 ≤ (wrap64 ((x0.length : Int) - 1)) then (if (wrap64 ((x0.length : Int) - 1)) < (x0.length : Int) then ((r17_Takes.f k ((rd_T68 x0 (wrap64 ((x0.length : Int) - 1))).f0)).bind fun t277 => (if x4 < t277 then (if 0 ≤ (wrap64 ((x0.length : Int) - x3)) then (if (wrap64 ((x0.length : Int) - x3)) ≤ (x0.length : Int) then ((r17_Tail.f k (x0.take ((wrap64 ((x0.length : Int) - x3)) : Int).toNat)).bind fun t282 => (if t282 = 0 then (some 0) else (r17_Tail.l0 k x0 (wrap64 (x3 + t282)) (wrap64 (x4 + 1))))) else (none)) else (none)) else (some x3))) else (none)) else (none)
def r17_Tail.f : Nat → List (S68) → Option (Int)
 | 0, _ => none
 | k + 1, l0 => if (l0.length : Int) = 0 then (r17_Tail.j0 k l0 true) else (if 0 ≤ (wrap64 ((l0.length : Int) - 1)) then (if (wrap64 ((l0.length : Int) - 1)) < (l0.length : Int) then ((r17_Word.f k ((rd_T68 l0 (wrap64 ((l0.length : Int) - 1))).f0) ((rd_T68 l0 (wrap64 ((l0.length : Int) - 1))).f1) ((rd_T68 l0 (wrap64 ((l0.length : Int) - 1))).f2)).bind fun t275 => (r17_Tail.j0 k l0 (!t275))) else (none)) else (none))
end
theorem r17_Tail.calls (k : Nat) : ∀ (A0 : Option Addr) (c0 : Nat) (l0 : List (S68)) (r : Int) (w : World) (hr0 : Kd.C k68 w A0 l0.length l0) (hc0 : l0.length ≤ c0) (h : r17_Tail.f k l0 = some r),
  Calls Tryz.prog 88 #[.slice A0 l0.length c0] w fun e w' => e = .returned (.int .i64 r) ∧ Below w.heap.size w w' := by
 induction k using Nat.strongRecOn with
 | _ k ih =>
 intro A0 c0 l0 r w hr0 hc0 h; cases k with
 | zero => exact absurd h (by simp [r17_Tail.f])
 | succ k =>
 simp only [r17_Tail.f] at h; have hu68 := Tryz.underlying68; have HR0 := Aside0.mk hr0; have HC0 := Aside0.mk hc0; clear hr0 hc0; have HB := Aside0.mk (Below.refl w.heap.size w); have H : (if (l0.length : Int) = 0 then (r17_Tail.j0 k l0 true) else (if 0 ≤ (wrap64 ((l0.length : Int) - 1)) then (if (wrap64 ((l0.length : Int) - 1)) < (l0.length : Int) then ((r17_Word.f k ((rd_T68 l0 (wrap64 ((l0.length : Int) - 1))).f0) ((rd_T68 l0 (wrap64 ((l0.length : Int) - 1))).f1) ((rd_T68 l0 (wrap64 ((l0.length : Int) - 1))).f2)).bind fun t275 => (r17_Tail.j0 k l0 (!t275))) else (none)) else (none))) = some r := h; clear h; have HC2 := Aside0.mk H; clear H; go_enter Tryz.func88, Tryz.ntmps88
 go_upto_region 1 with (fail)
 go_cut [18] (fun v18 wc => ∃ (kq : Nat) (x18_1 : Bool), v18 = .bool x18_1 ∧ Aside0 (r17_Tail.j0 kq l0 x18_1 = some r) ∧ Aside0 (kq ≤ k) ∧ Aside0 (Below w.heap.size w wc))
 case first =>
  have H := HC2.out; clear HC2
  by_cases c3 : (l0.length : Int) = 0
  ·rw [if_pos c3] at H
   have c3b0 : ((l0.length : Int) == 0) = true := beq_iff_eq.mpr c3; have c3b1 : ((l0.length : Int) != 0) = false := bne_eq_false_iff_eq.mpr c3; clear c3
   (first | rw [c3b0] | (simp only [i64_w, i32_w]; rw [c3b0]) | skip)
   have H' := Aside0.mk H; clear H; go_wp2
   go_meet
   case rel => exact ⟨_, (true), zq3, H', ⟨zq32⟩, ⟨zq0⟩⟩
  ·rw [if_neg c3] at H
   have c3b0 : ((l0.length : Int) == 0) = false := beq_eq_false_iff_ne.mpr c3; have c3b1 : ((l0.length : Int) != 0) = true := bne_iff_ne.mpr c3; have c3b2 : ¬ (l0 = []) := fun h_ => c3 (by rw [h_]; rfl)
   (first | rw [c3b0] | (simp only [i64_w, i32_w]; rw [c3b0]) | skip)
   obtain ⟨ji4, hji4⟩ : ∃ j_ : Int, (wrap64 ((l0.length : Int) - 1)) = j_ := ⟨_, rfl⟩
   replace H : (if 0 ≤ (ji4) then (if (ji4) < (l0.length : Int) then ((r17_Word.f k ((rd_T68 l0 (ji4)).f0) ((rd_T68 l0 (ji4)).f1) ((rd_T68 l0 (ji4)).f2)).bind fun t275 => (r17_Tail.j0 k l0 (!t275))) else (none)) else (none)) = some r := by first | (rw [hji4] at H; exact H) | (simp only [hji4] at H ⊢; exact H)
   have hji4w : (IntKind.i64.wrap ((l0.length : Int) - 1)) = ji4 := (i64_w _).trans hji4
   by_cases c5 : 0 ≤ (ji4)
   ·rw [if_pos c5] at H
    have c5b0 : decide (0 ≤ (ji4)) = true := decide_eq_true c5; clear c5
    by_cases c6 : (ji4) < (l0.length : Int)
    ·rw [if_pos c6] at H
     have c6b0 : decide ((ji4) < (l0.length : Int)) = true := decide_eq_true c6; clear c6; replace H := Option.bind_eq_some_iff.mp H; obtain ⟨t275, A70, H⟩ := H; replace H : (r17_Tail.j0 k l0 (!t275)) = some r := H; have A7 := Aside0.mk A70; clear A70; have H' := Aside0.mk H; clear H; have p274 : 0 ≤ ((ji4) : Int) := of_decide_eq_true zq1; have q274 : (ji4) < (l0.length : Int) := of_decide_eq_true zq1; obtain ⟨ad274, e274, hx274_0, hx274_1, hx274_2⟩ := at_T68 HR0.out (ji4) p274 q274; cases e274; replace hx274_0 := hZ hx274_0 HB.out; replace hx274_1 := hZ hx274_1 HB.out; replace hx274_2 := hZ hx274_2 HB.out; replace p274 := eq_true p274; replace q274 := eq_true q274
     go_wp2_with (first | (go_at_call 129; (with_reducible refine (r17_Word.calls k ((rd_T68 l0 (ji4)).f0) ((rd_T68 l0 (ji4)).f1) ((rd_T68 l0 (ji4)).f2) t275 _ A7.out).mono ?_); rintro e w8 ⟨rfl, hb⟩; replace HB := BB HB hb; (try clear hb)))
     go_meet
     case rel => exact ⟨_, (!t275), zq3, H', ⟨zq32⟩, ⟨zq0⟩⟩
    ·rw [if_neg c6] at H
     exact absurd H zq30
   ·rw [if_neg c5] at H
    exact absurd H zq30
 case rest =>
  clear HC2
  try clear p2
  try clear q2
  try clear hx2
  try clear c3
  try clear c3b0
  try clear c3b1
  try clear c3b2
  try clear c5
  try clear c5b0
  try clear c6
  try clear c6b0
  try clear p6
  try clear c8
  try clear hx274_0
  try clear hx274_1
  try clear hx274_2
  try clear p274
  try clear q274
  obtain ⟨kq, x18_1, rfl, HA, HJ1, HB⟩ := hcut; cases kq with
  | zero => exact absurd HA.out (by simp [r17_Tail.j0])
  | succ kj1 =>
   have H := HA.out; clear HA; simp only [r17_Tail.j0] at H
   by_cases c9 : x18_1 = true
   ·subst c9
    have H1 : (some 0) = some r := by rw [if_pos rfl] at H; exact H
    clear H; have H := H1; clear H1; obtain rfl := Option.some.inj H; go_wp2; go_ret; exact ⟨zq2, zq0⟩
   ·replace c9 := Bool.eq_false_iff.mpr c9
    subst c9; have H1 : (r17_Tail.l0 kj1 l0 1 0) = some r := by rw [if_neg (show ¬ (false = true) by decide)] at H; exact H
    clear H; have H := H1; clear H1; have H' := Aside0.mk H; clear H; go_wp2
    go_loopg [3, 4] kj1 (fun kq v3 v4 w' => ∃ (x3_2 : Int) (x4_2 : Int), v3 = .int .i64 x3_2 ∧ v4 = .int .i64 x4_2 ∧ Aside0 (r17_Tail.l0 kq l0 x3_2 x4_2 = some r) ∧ Aside0 (kq ≤ kj1) ∧ Aside0 (Below w.heap.size w w'))
    case atStart => exact ⟨(1), (0), zq3, zq3, H', ⟨Nat.le_refl _⟩, ⟨zq0⟩⟩
    case round =>
     clear H'
     try clear p2
     try clear q2
     try clear hx2
     try clear c3
     try clear c3b0
     try clear c3b1
     try clear c3b2
     try clear c5
     try clear c5b0
     try clear c6
     try clear c6b0
     try clear p6
     try clear c8
     try clear c9
     try clear hx274_0
     try clear hx274_1
     try clear hx274_2
     try clear p2
     try clear p274
     try clear p6
     try clear q2
     try clear q274
     obtain ⟨x3_2, x4_2, rfl, rfl, HA, HK2, HB⟩ := hrel; cases gk with
     | zero => exact absurd HA.out (by simp [r17_Tail.l0])
     | succ k2 =>
      have H := HA.out; clear HA; simp only [r17_Tail.l0] at H; obtain ⟨ji10, hji10⟩ : ∃ j_ : Int, (wrap64 ((l0.length : Int) - 1)) = j_ := ⟨_, rfl⟩
      replace H : (if 0 ≤ (ji10) then (if (ji10) < (l0.length : Int) then ((r17_Takes.f k2 ((rd_T68 l0 (ji10)).f0)).bind fun t277 => (if x4_2 < t277 then (if 0 ≤ (wrap64 ((l0.length : Int) - x3_2)) then (if (wrap64 ((l0.length : Int) - x3_2)) ≤ (l0.length : Int) then ((r17_Tail.f k2 (l0.take ((wrap64 ((l0.length : Int) - x3_2)) : Int).toNat)).bind fun t282 => (if t282 = 0 then (some 0) else (r17_Tail.l0 k2 l0 (wrap64 (x3_2 + t282)) (wrap64 (x4_2 + 1))))) else (none)) else (none)) else (some x3_2))) else (none)) else (none)) = some r := by first | (rw [hji10] at H; exact H) | (simp only [hji10] at H ⊢; exact H)
      have hji10w : (IntKind.i64.wrap ((l0.length : Int) - 1)) = ji10 := (i64_w _).trans hji10
      by_cases c11 : 0 ≤ (ji10)
      ·rw [if_pos c11] at H
       have c11b0 : decide (0 ≤ (ji10)) = true := decide_eq_true c11; clear c11
       by_cases c12 : (ji10) < (l0.length : Int)
       ·rw [if_pos c12] at H
        have c12b0 : decide ((ji10) < (l0.length : Int)) = true := decide_eq_true c12; clear c12; replace H := Option.bind_eq_some_iff.mp H; obtain ⟨t277, A130, H⟩ := H; replace H : (if x4_2 < t277 then (if 0 ≤ (wrap64 ((l0.length : Int) - x3_2)) then (if (wrap64 ((l0.length : Int) - x3_2)) ≤ (l0.length : Int) then ((r17_Tail.f k2 (l0.take ((wrap64 ((l0.length : Int) - x3_2)) : Int).toNat)).bind fun t282 => (if t282 = 0 then (some 0) else (r17_Tail.l0 k2 l0 (wrap64 (x3_2 + t282)) (wrap64 (x4_2 + 1))))) else (none)) else (none)) else (some x3_2)) = some r := H; have A13 := Aside0.mk A130; clear A130
        by_cases c14 : x4_2 < t277
        ·rw [if_pos c14] at H
         have c14b0 : decide (x4_2 < t277) = true := decide_eq_true c14; clear c14; obtain ⟨ji15, hji15⟩ : ∃ j_ : Int, (wrap64 ((l0.length : Int) - x3_2)) = j_ := ⟨_, rfl⟩
         replace H : (if 0 ≤ (ji15) then (if (ji15) ≤ (l0.length : Int) then ((r17_Tail.f k2 (l0.take ((ji15) : Int).toNat)).bind fun t282 => (if t282 = 0 then (some 0) else (r17_Tail.l0 k2 l0 (wrap64 (x3_2 + t282)) (wrap64 (x4_2 + 1))))) else (none)) else (none)) = some r := by first | (rw [hji15] at H; exact H) | (simp only [hji15] at H ⊢; exact H)
         (try rw [hji15] at A13)
         have hji15w : (IntKind.i64.wrap ((l0.length : Int) - x3_2)) = ji15 := (i64_w _).trans hji15
         by_cases c16 : 0 ≤ (ji15)
         ·rw [if_pos c16] at H
          have c16b0 := eq_true c16; have c16b1 : decide (0 ≤ (ji15)) = true := decide_eq_true c16; clear c16
          by_cases c17 : (ji15) ≤ (l0.length : Int)
          ·rw [if_pos c17] at H
           have c17b0 := eq_true c17; have c17b1 : decide ((ji15) ≤ (l0.length : Int)) = true := decide_eq_true c17; clear c17; obtain ⟨y278, hy278⟩ : ∃ y_ : List (S68), y_ = (l0.take ((ji15) : Int).toNat) := ⟨_, rfl⟩
           replace H : ((r17_Tail.f k2 y278).bind fun t282 => (if t282 = 0 then (some 0) else (r17_Tail.l0 k2 l0 (wrap64 (x3_2 + t282)) (wrap64 (x4_2 + 1))))) = some r := by first | (rw [hy278]; with_reducible exact H) | (have H2_ := (Option.bind_some _ _).symm.trans H; rw [hy278]; with_reducible exact H2_) | (have H2_ := (Option.bind_some _ _).symm.trans H; with_reducible exact H2_) | with_reducible exact H | (rw [hy278]; exact H) | exact H
           have Ny278 := Aside0.mk hy278; clear hy278; replace H := Option.bind_eq_some_iff.mp H; obtain ⟨t282, A180, H⟩ := H; replace H : (if t282 = 0 then (some 0) else (r17_Tail.l0 k2 l0 (wrap64 (x3_2 + t282)) (wrap64 (x4_2 + 1)))) = some r := H; have A18 := Aside0.mk A180; clear A180
           by_cases c19 : t282 = 0
           ·rw [if_pos c19] at H
            have c19b0 : (t282 == 0) = true := beq_iff_eq.mpr c19; have c19b1 : (t282 != 0) = false := bne_eq_false_iff_eq.mpr c19; clear c19; obtain rfl := Option.some.inj H; have p276 : 0 ≤ ((ji10) : Int) := of_decide_eq_true zq1; have q276 : (ji10) < (l0.length : Int) := of_decide_eq_true zq1; obtain ⟨ad276, e276, hx276_0, hx276_1, hx276_2⟩ := at_T68 HR0.out (ji10) p276 q276; cases e276; replace hx276_0 := hZ hx276_0 HB.out; replace hx276_1 := hZ hx276_1 HB.out; replace hx276_2 := hZ hx276_2 HB.out; replace p276 := eq_true p276; replace q276 := eq_true q276
            go_wp2_with (first | ((with_reducible refine gate_callee (f := 130) rfl ?_); refine goesL_ (some 27) rfl rfl Tryz.func130 zq17 rfl #[.int .i64 ((rd_T68 l0 (ji10)).f0)] rfl zq63 ?_; (with_reducible refine (r17_Takes.calls k2 ((rd_T68 l0 (ji10)).f0) t277 _ A13.out).mono ?_); rintro e w' ⟨rfl, ⟨nd, rfl⟩⟩; refine ⟨_, rfl, ?_⟩; have q20 : ((ji15) : Int) ≤ ((l0.length : Int) : Int) := of_decide_eq_true zq1; obtain ⟨i020, hi020, _, hsz20, _⟩ := info_parts info68; have hroom20 : l0.length ≤ c0 := HC0.out; have hC20 : Kd.C k68 _ (some ad276) l0.length l0 := HR0.out; have hcut20 := cut_to (P := Tryz.prog) 24 68 .i64 Tryz.underlying24 hi020 (some ad276) l0.length c0 (ji15) (of_decide_eq_true zq1) q20 hroom20; have hr20 := Kd.C_take (m := ((ji15) : Int).toNat) hC20 zq4; have hy20 : y278.length = ((ji15) : Int).toNat := (by rw [Ny278.out, List.length_take]; omega); rw [← Ny278.out] at hr20; rw [← hy20] at hcut20; have HR281 := Aside0.mk hr20; have HC281 := Aside0.mk (show y278.length ≤ c0 from by omega); clear hr20 hC20 hroom20 hi020 hsz20; have KY20 := Aside0.mk hy20; clear hy20; replace q20 := eq_true q20) | (refine gZ 37 Tryz.func88 #[.slice (some ad276) y278.length c0] ?_; (with_reducible refine (ih k2 (by have := HJ1.out; have := HK2.out; omega) _ _ y278 t282 _ ?side1 ?side2 A18.out).mono ?_); (case side1 => repeat (first | exact (Kd.C_below HR281.out zq0) | (with_reducible refine Kd.C_alloc ?_ _) | (with_reducible refine Kd.C_drewN ?_ _) | (with_reducible refine Kd.C_drew ?_))); (case side2 => exact HC281.out); rintro e w21 ⟨rfl, hb⟩; refine ⟨_, rfl, ?_⟩; replace HB := BB HB hb; (try clear hb)))
            go_ret; exact ⟨(by first | rfl | (simp [errW_none, errW_some] <;> rfl) | (simp only [← hji10, ← hji15]; first | rfl | (simp [errW_none, errW_some] <;> rfl)) | (simp [*, errW_none, errW_some] <;> rfl)), zq0⟩
           ·rw [if_neg c19] at H
            have c19b0 : (t282 == 0) = false := beq_eq_false_iff_ne.mpr c19; have c19b1 : (t282 != 0) = true := bne_iff_ne.mpr c19; have H' := Aside0.mk H; clear H; have p276 : 0 ≤ ((ji10) : Int) := of_decide_eq_true zq1; have q276 : (ji10) < (l0.length : Int) := of_decide_eq_true zq1; obtain ⟨ad276, e276, hx276_0, hx276_1, hx276_2⟩ := at_T68 HR0.out (ji10) p276 q276; cases e276; replace hx276_0 := hZ hx276_0 HB.out; replace hx276_1 := hZ hx276_1 HB.out; replace hx276_2 := hZ hx276_2 HB.out; replace p276 := eq_true p276; replace q276 := eq_true q276
            go_wp2_with (first | ((with_reducible refine gate_callee (f := 130) rfl ?_); refine goesL_ (some 27) rfl rfl Tryz.func130 zq17 rfl #[.int .i64 ((rd_T68 l0 (ji10)).f0)] rfl zq63 ?_; (with_reducible refine (r17_Takes.calls k2 ((rd_T68 l0 (ji10)).f0) t277 _ A13.out).mono ?_); rintro e w' ⟨rfl, ⟨nd, rfl⟩⟩; refine ⟨_, rfl, ?_⟩; have q22 : ((ji15) : Int) ≤ ((l0.length : Int) : Int) := of_decide_eq_true zq1; obtain ⟨i022, hi022, _, hsz22, _⟩ := info_parts info68; have hroom22 : l0.length ≤ c0 := HC0.out; have hC22 : Kd.C k68 _ (some ad276) l0.length l0 := HR0.out; have hcut22 := cut_to (P := Tryz.prog) 24 68 .i64 Tryz.underlying24 hi022 (some ad276) l0.length c0 (ji15) (of_decide_eq_true zq1) q22 hroom22; have hr22 := Kd.C_take (m := ((ji15) : Int).toNat) hC22 zq4; have hy22 : y278.length = ((ji15) : Int).toNat := (by rw [Ny278.out, List.length_take]; omega); rw [← Ny278.out] at hr22; rw [← hy22] at hcut22; have HR281 := Aside0.mk hr22; have HC281 := Aside0.mk (show y278.length ≤ c0 from by omega); clear hr22 hC22 hroom22 hi022 hsz22; have KY22 := Aside0.mk hy22; clear hy22; replace q22 := eq_true q22) | (refine gZ 37 Tryz.func88 #[.slice (some ad276) y278.length c0] ?_; (with_reducible refine (ih k2 (by have := HJ1.out; have := HK2.out; omega) _ _ y278 t282 _ ?side1 ?side2 A18.out).mono ?_); (case side1 => repeat (first | exact (Kd.C_below HR281.out zq0) | (with_reducible refine Kd.C_alloc ?_ _) | (with_reducible refine Kd.C_drewN ?_ _) | (with_reducible refine Kd.C_drew ?_))); (case side2 => exact HC281.out); rintro e w23 ⟨rfl, hb⟩; refine ⟨_, rfl, ?_⟩; replace HB := BB HB hb; (try clear hb)))
            go_roundg k2
            case measure => have := HJ1.out; have := HK2.out; omega
            case rel => exact ⟨(wrap64 (x3_2 + t282)), (wrap64 (x4_2 + 1)), zq3, zq3, H', ⟨by have := HJ1.out; have := HK2.out; omega⟩, ⟨zq0⟩⟩
          ·rw [if_neg c17] at H
           exact absurd H zq30
         ·rw [if_neg c16] at H
          exact absurd H zq30
        ·rw [if_neg c14] at H
         have c14b0 : decide (x4_2 < t277) = false := decide_eq_false c14; clear c14; obtain rfl := Option.some.inj H; have p276 : 0 ≤ ((ji10) : Int) := of_decide_eq_true zq1; have q276 : (ji10) < (l0.length : Int) := of_decide_eq_true zq1; obtain ⟨ad276, e276, hx276_0, hx276_1, hx276_2⟩ := at_T68 HR0.out (ji10) p276 q276; cases e276; replace hx276_0 := hZ hx276_0 HB.out; replace hx276_1 := hZ hx276_1 HB.out; replace hx276_2 := hZ hx276_2 HB.out; replace p276 := eq_true p276; replace q276 := eq_true q276
         go_wp2_with (first | ((with_reducible refine gate_callee (f := 130) rfl ?_); refine goesL_ (some 27) rfl rfl Tryz.func130 zq17 rfl #[.int .i64 ((rd_T68 l0 (ji10)).f0)] rfl zq63 ?_; (with_reducible refine (r17_Takes.calls k2 ((rd_T68 l0 (ji10)).f0) t277 _ A13.out).mono ?_); rintro e w' ⟨rfl, ⟨nd, rfl⟩⟩; refine ⟨_, rfl, ?_⟩))
         go_ret; exact ⟨(by first | rfl | (simp [errW_none, errW_some] <;> rfl) | (simp only [← hji10]; first | rfl | (simp [errW_none, errW_some] <;> rfl)) | (simp [*, errW_none, errW_some] <;> rfl)), zq0⟩
       ·rw [if_neg c12] at H
        exact absurd H zq30
      ·rw [if_neg c11] at H
       exact absurd H zq30
def r17_Form.f (k : Nat) (l0 : List (S68)) : Option (Int) := if (l0.length : Int) > 64 then (some 6) else (if (l0.length : Int) = 0 then (some 18) else ((r17_Tail.f k l0).bind fun t283 => (if t283 = (l0.length : Int) then (some 0) else (some 18))))
theorem r17_Form.calls (k : Nat) (A0 : Option Addr) (c0 : Nat) (l0 : List (S68)) (r : Int) (w : World) (hr0 : Kd.C k68 w A0 l0.length l0) (hc0 : l0.length ≤ c0) (h : r17_Form.f k l0 = some r) :
  Calls Tryz.prog 51 #[.slice A0 l0.length c0] w fun e w' => e = .returned (.int .i64 r) ∧ Below w.heap.size w w' := by
 have HR0 := Aside0.mk hr0; have HC0 := Aside0.mk hc0; clear hr0 hc0; have HB := Aside0.mk (Below.refl w.heap.size w); have H : (if (l0.length : Int) > 64 then (some 6) else (if (l0.length : Int) = 0 then (some 18) else ((r17_Tail.f k l0).bind fun t283 => (if t283 = (l0.length : Int) then (some 0) else (some 18))))) = some r := h; clear h
 by_cases c2 : (l0.length : Int) > 64
 ·rw [if_pos c2] at H
  have c2b0 : decide (64 < (l0.length : Int)) = true := decide_eq_true c2; have c2b1 : decide (64 < l0.length) = true := decide_eq_true zq4; clear c2; obtain rfl := Option.some.inj H; go_enter Tryz.func51, Tryz.ntmps51; go_wp2; go_ret; exact ⟨zq2, zq0⟩
 ·rw [if_neg c2] at H
  have c2b0 : decide (64 < (l0.length : Int)) = false := decide_eq_false c2; have c2b1 : decide (64 < l0.length) = false := decide_eq_false zq4; clear c2
  by_cases c3 : (l0.length : Int) = 0
  ·rw [if_pos c3] at H
   have c3b0 : ((l0.length : Int) == 0) = true := beq_iff_eq.mpr c3; have c3b1 : ((l0.length : Int) != 0) = false := bne_eq_false_iff_eq.mpr c3; clear c3; obtain rfl := Option.some.inj H; go_enter Tryz.func51, Tryz.ntmps51; go_wp2; go_ret; exact ⟨zq2, zq0⟩
  ·rw [if_neg c3] at H
   have c3b0 : ((l0.length : Int) == 0) = false := beq_eq_false_iff_ne.mpr c3; have c3b1 : ((l0.length : Int) != 0) = true := bne_iff_ne.mpr c3; have c3b2 : ¬ (l0 = []) := fun h_ => c3 (by rw [h_]; rfl)
   replace H := Option.bind_eq_some_iff.mp H; obtain ⟨t283, A40, H⟩ := H; replace H : (if t283 = (l0.length : Int) then (some 0) else (some 18)) = some r := H; have A4 := Aside0.mk A40; clear A40
   by_cases c5 : t283 = (l0.length : Int)
   ·rw [if_pos c5] at H
    have c5b0 : (t283 == (l0.length : Int)) = true := beq_iff_eq.mpr c5; have c5b1 : (t283 != (l0.length : Int)) = false := bne_eq_false_iff_eq.mpr c5; clear c5; obtain rfl := Option.some.inj H; go_enter Tryz.func51, Tryz.ntmps51
    go_wp2_with (first | (go_at_call 88; (with_reducible refine (r17_Tail.calls k _ _ l0 t283 _ ?side1 ?side2 A4.out).mono ?_); (case side1 => exact cQ HR0.out); (case side2 => exact HC0.out); rintro e w6 ⟨rfl, hb⟩; replace HB := BB HB hb; (try clear hb)))
    go_ret; exact ⟨zq2, zq0⟩
   ·rw [if_neg c5] at H
    have c5b0 : (t283 == (l0.length : Int)) = false := beq_eq_false_iff_ne.mpr c5; have c5b1 : (t283 != (l0.length : Int)) = true := bne_iff_ne.mpr c5; obtain rfl := Option.some.inj H; go_enter Tryz.func51, Tryz.ntmps51
    go_wp2_with (first | (go_at_call 88; (with_reducible refine (r17_Tail.calls k _ _ l0 t283 _ ?side1 ?side2 A4.out).mono ?_); (case side1 => exact cQ HR0.out); (case side2 => exact HC0.out); rintro e w7 ⟨rfl, hb⟩; replace HB := BB HB hb; (try clear hb)))
    go_ret; exact ⟨zq2, zq0⟩
end Go.Proofs.YtmkgecapkeojaaaGreat.PDa
end
