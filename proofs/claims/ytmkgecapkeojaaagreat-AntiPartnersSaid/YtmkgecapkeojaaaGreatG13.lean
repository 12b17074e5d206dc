/- Texts of this claim, put together by a program: HMay, HOne, HParts, HOf, HEval, HMade, RefProj, LawP, Any, JoinL, LiveP, LiveJ, PartsA, LiveA, HTwo, LawT, JoinT, RefPairs. -/
import Derived.Test.YtmkgecapkeojaaaGreatG12
import Derived.Deep.DeepCutAuto
set_option linter.unusedVariables false
set_option linter.unusedSimpArgs false
set_option maxHeartbeats 8000000
set_option maxRecDepth 100000
section
namespace Go.Proofs.YtmkgecapkeojaaaGreat.Eg
open Go.Proofs.YtmkgecapkeojaaaGreat Go.Proofs.YtmkgecapkeojaaaGreat.PDa
open Go.RowKit Go.Proofs.YtmkgecapkeojaaaGreatW.PrintWords Go.Proofs.YtmkgecapkeojaaaGreatW.PrintLast Go.Proofs.YtmkgecapkeojaaaGreatW.PrintMore
open Go.Proofs.YtmkgecapkeojaaaGreat.Stp Go.Proofs.YtmkgecapkeojaaaGreat.Rw Go.Proofs.YtmkgecapkeojaaaGreat.SortM
def chainA (l : List EdP) : Nat -> Bool
 | 0 => chain0 l
 | i + 1 => match l[i]? with
  | some p => chainB p (l.drop (i + 1))
  | none => true
theorem chainA_0 (l : List EdP) (h : 0 < l.length) : chainA l 0 = (okE l[0] && chainA l 1) := by
 cases l with
 | nil => simp at h
 | cons e es => rfl
theorem chainA_1 (l : List EdP) (i : Nat) (h : i + 1 < l.length) : chainA l (i + 1) = (okE l[i + 1] && stepB l[i] l[i + 1] && chainA l (i + 2)) := by
 simp only [chainA]; rw [List.getElem?_eq_getElem (show i < l.length by omega), List.getElem?_eq_getElem h, List.drop_eq_getElem_cons h]
 rfl
theorem chainA_end (l : List EdP) : chainA l l.length = true := by
 cases h : l.length with
 | zero => rw [List.eq_nil_of_length_eq_zero h]; rfl
 | succ n =>
  simp only [chainA]; rw [List.getElem?_eq_getElem (show n < l.length by omega), List.drop_eq_nil_of_le zq4]
  rfl
def hmy.T6 : Bool × List (List Nat × List Nat) := (true, [([], []), ([], []), ([0, 1], [0, 1]), ([2], [2]), ([3], [3]), ([4], [4]), ([5], [5]), ([6, 5], [6]), ([7], [7]), ([7], [7]), ([8, 9, 7], [7, 8, 9]), ([10, 7], [7, 10]), ([11, 7], [7, 11]), ([7], [7]), ([7], [7]), ([13, 14, 7], [7, 13, 14]), ([15, 7], [7, 15]), ([16, 7], [7, 16]), ([12, 17, 7], [7, 12, 17]), ([18, 7], [7, 18]), ([19, 7, 7], [7, 19]), ([20, 7], [7, 20]), ([7, 21], [7, 21])])
def hmy.B6 : List Nat := [0, 0, 3, 7, 15, 31, 63, 127, 255, 255, 1023, 2047, 4095, 255, 255, 24831, 57599, 123135, 262143, 524287, 1048575, 2097151, 4194303]
theorem hmy.tab6 : rtab .any (opsOf Tryz.f50 6) = hmy.T6 := by kernel_rfl
theorem hmy.bits6 : waitsOk hmy.T6.2 hmy.B6 = true := by kernel_rfl
theorem hmay_calls (A0 : Option Addr) (c0 : Nat) (l : List EdP) (w : World) (hr0 : Kd.C kE w A0 l.length l) (hc0 : l.length <= c0) (hl : l.length <= 1024) (hrow : ∀ e ∈ l, e.f0.length <= 4398046511104) :
  Calls Tryz.prog 50 #[.slice A0 l.length c0] w fun e w' => e = .returned (.bool (mayE l)) /\ Below w.heap.size w w' := by
 have HR := Hd hr0; have HC := Hd hc0; have HL := Hd hl; have HRW := Hd hrow; have HM := Hd (show mayE l = chainA l 0 from mayE_chain l hl); clear hr0 hc0 hrow; go_enter Tryz.func50, Tryz.ntmps50; have b0 : decide ((l.length : Int) > 4096) = false := DEF zq4; clear hl; go_wp2; clear b0
 go_loopw [3] (fun v3 wr => ∃ (i : Nat), i <= l.length /\ v3 = .int .i64 (i : Int) /\ Aside0 (mayE l = chainA l i) /\ Aside0 (∀ e ∈ l.take i, rowMay e.f0 = true) /\ Aside0 (Below w.heap.size w wr)) (fun v3 wr => l.length - (intOf v3).toNat)
 case atStart => exact ⟨0, Nat.zero_le _, rfl, ⟨HM.out⟩, ⟨by simp⟩, ⟨Below.refl _ _⟩⟩
 case round =>
  clear HM; obtain ⟨i, hi, rfl, HEQ, HOK, HB⟩ := hrel; have hll := HL.out
  by_cases c : i < l.length
  ·obtain ⟨X, hX⟩ : ∃ X, l[i] = X := ⟨_, rfl⟩
   obtain ⟨ad, Ax, cx, e1, x0, x1, x2, x3, x4⟩ := at_T41 (Kd.C_below HR.out HB.out) (i : Int) zq4 zq4; rw [Int.toNat_natCast, rdE l i c, hX] at x0 x1 x2; rw [rdE l i c, hX] at x3 x4; cases e1; obtain ⟨P, hP⟩ : ∃ P, (0 < i -> l[i - 1]? = some P) := by
    by_cases h0 : 0 < i
    ·exact ⟨l[i - 1], fun _ => List.getElem?_eq_getElem zq4⟩
    ·exact ⟨X, fun h => absurd h h0⟩
   have HST := Hd (show mayE l = (okE X && (decide (i = 0) || stepB P X) && chainA l (i + 1)) by
    rw [HEQ.out]; cases i with
    | zero => rw [chainA_0 l c, hX]; simp
    | succ n =>
     have h := hP zq4; rw [Nat.add_sub_cancel, List.getElem?_eq_getElem (show n < l.length by omega)] at h; injection h with h
     rw [chainA_1 l n c, hX, h]; simp)
   have HTK := Hd (show l.take (i + 1) = l.take i ++ [X] by rw [List.take_add_one, List.getElem?_eq_getElem c, hX]; rfl); obtain ⟨km, hkm⟩ := (EvP.mayR X.f0).get; have MX := Hd (fun (W : World) (h : Below wr.heap.size wr W) => r06_May.calls km Ax cx X.f0 _ W (Kd.C_below x4 h) x3 hkm); have X0 := Hd (fun (W : World) (h : Below wr.heap.size wr W) => pw_cell_below h x0); have X1 := Hd (fun (W : World) (h : Below wr.heap.size wr W) => pw_cell_below h x1); have X2 := Hd (fun (W : World) (h : Below wr.heap.size wr W) => pw_cell_below h x2); have XC := Hd x4; have XL := Hd x3; have HP := Hd hP; have pI : (0 <= (i : Int)) = True := eq_true zq4; have qI : ((i : Int) < (l.length : Int)) = True := eq_true zq4; have hrx : X.f0.length <= 4398046511104 := HRW.out X (by rw [<- hX]; exact List.getElem_mem c); clear x0 x1 x2 x3 x4 hkm hX hP; cases hm : rowMay X.f0 with
   | false =>
    have HV := Hd (show mayE l = false by rw [HST.out, show okE X = false by unfold okE; rw [hm]; rfl]; rfl); rw [hm] at MX; have x0' := fun p : BelowOf wr => X0.out p.W p.h
    go_wp2; refine wp_region_quiet_below zq17 zq17 ?_
    repeat (go_big_quiet_step (exact below_calls (MX.out _ (BelowOf.h _))))
    refine wpQuiet_nil ?_; intro wq hw1; have HBQ := Hd (show Below wr.heap.size wr wq by obtain ⟨p, rfl⟩ := hw1; exact p.h); clear hw1 x0'; go_wp2; go_ret; exact ⟨by rw [HV.out]; rfl, HB.out.trans (HBQ.out.mono HB.out.size)⟩
   | true =>
    rw [hm] at MX; have hj9 := may09_one ⟨X.f1, X.f2⟩; obtain ⟨mj, hmj⟩ : ∃ b, mayJ [(⟨X.f1, X.f2⟩ : Jp)] = b := ⟨_, rfl⟩
    rw [hmj] at hj9; have HOKE := Hd (show okE X = mj by unfold okE; rw [hm, <- hmj]; rfl); obtain ⟨k9, hk9⟩ := hj9.get; have HK9 := Hd hk9; clear hk9 hmj; obtain ⟨wA, hwA⟩ : ∃ x, x = wr := ⟨_, rfl⟩
    go_wp2; have HBB := below_drew1 (Below.refl wr.heap.size wr); have b0 := X0.out _ HBB; have b1 := X1.out _ HBB; have b2 := X2.out _ HBB; refine start_ (n := 23) (S := fun w' => Below wr.heap.size wr w' /\ w'.cell? (ad.add (i * 3)) = some (.slice Ax X.f0.length cx) /\ w'.cell? ⟨(ad.add (i * 3)).block, (ad.add (i * 3)).off + 1, none⟩ = some (.int .i64 X.f1) /\ w'.cell? ⟨(ad.add (i * 3)).block, (ad.add (i * 3)).off + 2, none⟩ = some (.int .i64 X.f2)) (ds := []) #[false, false, false, false, false, false, false, false, false, false, false, false, false, false, false, false, false, false, false, false, false, false, false] zq17 rfl rfl ⟨HBB, b0, b1, b2⟩ (fun hHeld => ?_); refine with_tabW hmy.tab6 hmy.bits6 (fun HT_ HW_ => ?_); refine pZ 0 16 ?_; refine pZ 1 17 ?_; refine pZ 2 18 ?_; refine pZ 3 19 ?_; refine tZ4 4 20 ?_; refine oZ 5 21 (fun K hK => ?_); refine goes_ Tryz.func69 zq17 rfl #[.slice Ax X.f0.length cx] (by rfl) rfl rfl zq67 ?_
    with_reducible refine (MX.out _ hHeld.1).mono ?_
    rintro e w5 ⟨rfl, hb5⟩; refine ⟨_, rfl, ?_⟩; have hb6 := hHeld.1.trans (hb5.mono hHeld.1.size); refine hK.out _ _ ⟨hb6, X0.out _ hb6, X1.out _ hb6, X2.out _ hb6⟩ (fun hHeld => ?_); clear hK K; refine nZ 21 ?_; refine pZ 6 22 ?_; refine pZ 7 23 ?_; refine pZ 8 24 ?_; refine pZ 9 25 ?_; refine pZ 10 26 ?_; refine pZ 11 27 ?_; refine pZ 13 29 ?_; refine pZ 14 30 ?_; refine pZ 15 31 ?_; refine pZ 16 32 ?_; refine tZ4 12 28 ?_; refine tZ4 17 33 ?_; refine pZ 18 34 ?_; refine oZ 19 35 (fun K hK => ?_); refine Kd.R_lit_step kJp _ tJ ?hg (N := 35) ?hd (xs := [(⟨X.f1, X.f2⟩ : Jp)]) (inner := [.int .i64 X.f1, .int .i64 X.f2]) (ok := fun _ => True) (okp := fun _ => True) ?hr ?hp (fun _ hk => hk) trivial (Below.refl _ _) (Nat.le_refl _) zq30 ?_
    case hd => rfl
    case hg => rfl
    case hr => first | (go_simp; done) | (go_simp; rfl)
    case hp => exact Reps.c2 (k85_mkM _ _ _ ⟨X.f1, X.f2⟩) (Reps.none _ _)
    intro vl w3 hRl hbl hgl hnl; obtain ⟨Al, cl, rfl⟩ := Kd.R_slice hRl; have HRL3 := Hd (Kd.R_reads' hRl); have hb7 := hHeld.1.trans (hbl.mono hHeld.1.size); clear hRl hgl hnl; refine hK.out _ _ ⟨hb7, X0.out _ hb7, X1.out _ hb7, X2.out _ hb7⟩ (fun hHeld => ?_); clear hK K; refine nZ 35 ?_; refine oZ 20 36 (fun K hK => ?_); refine goes_ Tryz.func79 zq17 rfl #[.slice Al ([⟨X.f1, X.f2⟩] : List Jp).length cl] (by rfl) rfl rfl zq67 ?_
    with_reducible refine (r09_May.calls k9 Al cl [⟨X.f1, X.f2⟩] _ _ (Kd.C_below HRL3.out.2.2 (Below.refl _ _)) HRL3.out.2.1 HK9.out).mono ?_
    rintro e w9 ⟨rfl, hb9⟩; refine ⟨_, rfl, ?_⟩; have hb8 := hHeld.1.trans (hb9.below.mono hHeld.1.size); have HBQ := Hd hb8; refine hK.out _ _ ⟨hb8, X0.out _ hb8, X1.out _ hb8, X2.out _ hb8⟩ (fun hHeld => ?_); clear hK K; refine nZ 36 ?_; refine pZ 21 37 ?_; refine pZ 22 38 ?_; refine done_ (done_of HT_.out zq17) ?_; cases mj with
    | false =>
     have HV := Hd (show mayE l = false by rw [HST.out, HOKE.out]; rfl); go_wp2; go_ret; exact ⟨by rw [HV.out]; rfl, HB.out.trans (HBQ.out.mono HB.out.size)⟩
    | true =>
     rw [HOKE.out, Bool.true_and] at HST; have HOKN := Hd (show ∀ e ∈ l.take (i + 1), rowMay e.f0 = true by
      intro e he; rw [HTK.out, List.mem_append] at he
      rcases he with he | he
      ·exact HOK.out e he
      ·rw [List.mem_singleton] at he; rw [he]; exact hm)
     have HBN := Hd (HB.out.trans (HBQ.out.mono HB.out.size)); clear HOKE HK9 MX HTK
     by_cases h0 : i = 0
     ·subst h0
      have HEN := Hd (show mayE l = chainA l (0 + 1) by rw [HST.out, DET rfl, Bool.true_or, Bool.true_and]); go_wp2; go_roundw
      case rel => exact ⟨0 + 1, by omega, by go_num, ⟨HEN.out⟩, ⟨HOKN.out⟩, ⟨HBN.out⟩⟩
      case measure => simp [intOf]; omega
     ·have bz : ((i : Int) == 0) = false := BNM zq4
      have hPP := HP.out zq4; rw [DEF h0, Bool.false_or] at HST; have hi1 : i - 1 < l.length := by omega
      have hw1 : wrap64 ((i : Int) - 1) = ((i - 1 : Nat) : Int) := by unfold wrap64; omega
      have hPg : l[i - 1] = P := by rw [List.getElem?_eq_getElem hi1] at hPP; exact OSI hPP
      obtain ⟨bd, Ay, cy, e2, y0, y1, y2, y3, y4⟩ := at_T41 (Kd.C_below HR.out HBN.out) ((i - 1 : Nat) : Int) zq4 zq4; rw [Int.toNat_natCast, rdE l (i - 1) hi1, hPg] at y0 y1 y2; rw [rdE l (i - 1) hi1, hPg] at y3 y4; cases e2; obtain ⟨kc, hkc⟩ := (ref06 P.f0 X.f0).get; obtain ⟨cc, hcc⟩ : ∃ z, cmpR P.f0 X.f0 = z := ⟨_, rfl⟩
      rw [hcc] at hkc; have HSB := Hd (show stepB P X = (decide (cc < 0) || (decide (cc = 0) && decide (P.f1 < X.f1))) by unfold stepB; rw [hcc]); have xC := Kd.C_below XC.out HBQ.out; have xl := XL.out; have CM := Hd (fun (p : BelowOf w9) => r06_Compare.calls kc Ay cy P.f0 Ax cx X.f0 _ p.W (Kd.C_below y4 p.h) y3 (Kd.C_below xC p.h) xl hkc); have x0' := fun p => BelowOf.cell (X0.out _ HBQ.out) p
      have y0' := fun p => BelowOf.cell y0 p
      have pK : (0 <= ((i - 1 : Nat) : Int)) = True := eq_true zq4; have qK : (((i - 1 : Nat) : Int) < (l.length : Int)) = True := eq_true zq4; have Y1 := Hd y1; clear y1 y2 y3 y4 hkc hcc xC xl hPg hPP HP; go_wp2; refine wp_region_quiet_below zq17 zq17 ?_
      repeat (go_big_quiet_step (exact below_calls (CM.out _)))
      refine wpQuiet_nil ?_; intro wq hw2; have HB2 := Hd (show Below w9.heap.size w9 wq by obtain ⟨p, rfl⟩ := hw2; exact p.h); have HBM := Hd (HBN.out.trans (HB2.out.mono HBN.out.size)); have z1' := fun p => BelowOf.cell (pw_cell_below HB2.out (X1.out _ HBQ.out)) p
      have z2' := fun p => BelowOf.cell (pw_cell_below HB2.out Y1.out) p
      clear hw2 x0' y0' y0 CM
      by_cases h1 : cc > 0
      ·have b1 : decide (cc > 0) = true := DET h1
       have HV := Hd (show mayE l = false by rw [HST.out, HSB.out, DEF (show ¬ cc < 0 by omega), DEF (show ¬ cc = 0 by omega)]; rfl); go_wp2; refine wp_region_quiet_below zq17 zq17 ?_
       repeat (go_big_quiet_step (fail))
       refine wpQuiet_nil ?_; intro wz hw3; have HBZ := Hd (show Below w.heap.size w wz by obtain ⟨p, rfl⟩ := hw3; exact HBM.out.trans (p.h.mono HBM.out.size)); clear hw3 z1' z2'; go_wp2; go_ret; exact ⟨by rw [HV.out]; rfl, HBZ.out⟩
      ·have b1 : decide (cc > 0) = false := DEF h1
       by_cases h2 : cc = 0
       ·have b2 : (cc == 0) = true := beq_iff_eq.mpr h2
        by_cases h3 : P.f1 >= X.f1
        ·have b3 : decide (P.f1 >= X.f1) = true := DET h3
         have HV := Hd (show mayE l = false by rw [HST.out, HSB.out, DEF (show ¬ cc < 0 by omega), DEF (show ¬ P.f1 < X.f1 by omega), Bool.and_false]; rfl); go_wp2; refine wp_region_quiet_below zq17 zq17 ?_
         repeat (go_big_quiet_step (fail))
         refine wpQuiet_nil ?_; intro wz hw3; have HBZ := Hd (show Below w.heap.size w wz by obtain ⟨p, rfl⟩ := hw3; exact HBM.out.trans (p.h.mono HBM.out.size)); clear hw3 z1' z2'; go_wp2; go_ret; exact ⟨by rw [HV.out]; rfl, HBZ.out⟩
        ·have b3 : decide (P.f1 >= X.f1) = false := DEF h3
         have HEN := Hd (show mayE l = chainA l (i + 1) by rw [HST.out, HSB.out, DET h2, DET (show P.f1 < X.f1 by omega), Bool.and_true, Bool.or_true, Bool.true_and]); go_wp2; refine wp_region_quiet_below zq17 zq17 ?_
         repeat (go_big_quiet_step (fail))
         refine wpQuiet_nil ?_; intro wz hw3; have HBZ := Hd (show Below w.heap.size w wz by obtain ⟨p, rfl⟩ := hw3; exact HBM.out.trans (p.h.mono HBM.out.size)); clear hw3 z1' z2'; go_wp2; go_roundw
         case rel => exact ⟨i + 1, by omega, by go_num, ⟨HEN.out⟩, ⟨HOKN.out⟩, ⟨HBZ.out⟩⟩
         case measure => simp [intOf]; omega
       ·have b2 : (cc == 0) = false := BNM h2
        have HEN := Hd (show mayE l = chainA l (i + 1) by rw [HST.out, HSB.out, DET (show cc < 0 by omega), Bool.true_or, Bool.true_and]); go_wp2; refine wp_region_quiet_below zq17 zq17 ?_
        repeat (go_big_quiet_step (fail))
        refine wpQuiet_nil ?_; intro wz hw3; have HBZ := Hd (show Below w.heap.size w wz by obtain ⟨p, rfl⟩ := hw3; exact HBM.out.trans (p.h.mono HBM.out.size)); clear hw3 z1' z2'; go_wp2; go_roundw
        case rel => exact ⟨i + 1, by omega, by go_num, ⟨HEN.out⟩, ⟨HOKN.out⟩, ⟨HBZ.out⟩⟩
        case measure => simp [intOf]; omega
  ·obtain rfl : i = l.length := by omega
   have HV := Hd (show mayE l = true by rw [HEQ.out, chainA_end]); have HOKL := Hd (show ∀ e ∈ l, rowMay e.f0 = true by have := HOK.out; rw [List.take_length] at this; exact this); have HBL := Hd HB.out; clear HEQ HOK HB
   go_wp2_with (go_at_call 66; refine hold3 ?_)
   refine ⟨?_⟩; refine (hrows_calls A0 c0 l w wr HR.out HBL.out zq4 HOKL.out).mono ?_; rintro e w1 ⟨v, rfl, hRr, hb1⟩; obtain ⟨Ar, cr, rfl⟩ := Kd.R_slice hRr; have HRS := Hd (Kd.R_reads' hRr).2.2; have HB1 := Hd (HBL.out.trans (hb1.mono HBL.out.size)); have HRC := Hd (kH_C HB1.out HRS.out); obtain ⟨RS, hRS⟩ : ∃ z, rowsOf l = z := ⟨_, rfl⟩
   rw [hRS] at HRC ⊢; have hrl : RS.length <= 1024 := by
    have := insR_len l; rw [insR_eq, hRS] at this; omega
   clear hRr hb1 hRS HRS; go_wp2
   go_loopw [6] (fun v6 wr => ∃ (j : Nat), j <= RS.length /\ v6 = .int .i64 (j : Int) /\ Aside0 (Below w1.heap.size w1 wr)) (fun v6 wr => RS.length - (intOf v6).toNat)
   case atStart => exact ⟨0, Nat.zero_le _, rfl, ⟨Below.refl _ _⟩⟩
   case round =>
    obtain ⟨j, hj, rfl, HBI⟩ := hrel
    by_cases cj : j < RS.length
    ·obtain ⟨r, hr⟩ : ∃ r, RS[j] = r := ⟨_, rfl⟩
     obtain ⟨a3, Ay, cy, e3, y0, y1, y2⟩ := at_L3 (Kd.C_below HRC.out HBI.out) (j : Int) zq4 zq4; rw [rdR RS j cj, hr] at y0 y1 y2; rw [Int.toNat_natCast] at y0; cases e3; obtain ⟨kj, hkj⟩ := (jumps10 l r HRW.out zq4).get; have JC := Hd (r10_Jumps.calls kj A0 c0 l Ay cy r (jumpsOf l r) wr (Kd.C_below HR.out (HB1.out.trans (HBI.out.mono HB1.out.size))) HC.out y2 y1 hkj); have bj : decide (((jumpsOf l r).length : Int) > 1024) = false := DEF (by have := jumpsOf_len l r; omega); have pJ : (0 <= (j : Int)) = True := eq_true zq4; have qJ : ((j : Int) < (RS.length : Int)) = True := eq_true zq4; clear y1 y2 hkj hr
     go_wp2_with (go_at_call 26; refine hold3 ?_)
     refine ⟨?_⟩; refine JC.out.mono ?_; rintro e w2 ⟨vj, rfl, hRj, hb2⟩; obtain ⟨Aj, cj2, rfl⟩ := Kd.R_slice hRj; have HBJ := Hd (HBI.out.trans (hb2.mono HBI.out.size)); clear hRj hb2 JC y0; go_wp2; go_roundw
     case rel => exact ⟨j + 1, by omega, by go_num, ⟨HBJ.out⟩⟩
     case measure => simp [intOf]; omega
    ·have pj : decide ((j : Int) < (RS.length : Int)) = false := DEF zq4
     go_wp2; go_ret; exact ⟨by rw [HV.out]; rfl, HB1.out.trans (HBI.out.mono HB1.out.size)⟩
end Go.Proofs.YtmkgecapkeojaaaGreat.Eg
end
section
namespace Go.Proofs.YtmkgecapkeojaaaGreat.Eg
open Go.Proofs.YtmkgecapkeojaaaGreat Go.Proofs.YtmkgecapkeojaaaGreat.PDa
open Go.RowKit Go.Proofs.YtmkgecapkeojaaaGreatW.PrintWords Go.Proofs.YtmkgecapkeojaaaGreatW.PrintLast Go.Proofs.YtmkgecapkeojaaaGreatW.PrintMore
open Go.Proofs.YtmkgecapkeojaaaGreat.EvP (okI)
def oneV (c n : Int) (t : ByteArray) (l : List S65) (k m : Int) (s : ByteArray) : Int × Int × ByteArray × Int :=
 if c = 1 then (1, n, ⟨#[]⟩, 0) else if c = 2 then (2, 0, t, 0) else if c = 3 then (if n >= (l.length : Int) then (0, 0, ⟨#[]⟩, 3) else ((rd_T65 l n).f0, (rd_T65 l n).f1, (rd_T65 l n).f2, 0))
 else if c = 6 then (if k = 2 then (1, (s.size : Int), ⟨#[]⟩, 0) else (0, 0, ⟨#[]⟩, 12)) else if k = 1 then (if c = 5 then (1, tv (m == 0), ⟨#[]⟩, 0) else numR (okI (0 - m))) else (0, 0, ⟨#[]⟩, 12)
abbrev oneCalls (c n : Int) (t : ByteArray) (A1 : Option Addr) (c1 : Nat) (l : List S65) (k m : Int) (s : ByteArray) (w : World) (r : Int × Int × ByteArray × Int) : Prop :=
 Calls Tryz.prog 159 #[.agg #[.int .i64 c, .int .i64 n, .string t], .slice A1 l.length c1, .agg #[.int .i64 k, .int .i64 m, .string s]] w fun e w' => OutV r e /\ Below w.heap.size w w'
theorem ref_num (n : Int) (w : World) : Calls Tryz.prog 178 #[.int .i64 n] w fun e w' => e = .returned (.agg #[.int .i64 1, .int .i64 n, .string ⟨#[]⟩]) /\ Below w.heap.size w w' :=
 r05_Num.calls n 1 n ⟨#[]⟩ w rfl
theorem ref_neg (n : Int) (hn : EvP.R64 n) (w : World) : Calls Tryz.prog 179 #[.int .i64 n] w fun e w' => e = .returned (.tuple #[.int .i64 (okI (0 - n)).1, .int .i64 (okI (0 - n)).2]) /\ Below w.heap.size w w' :=
 (r01_Neg.calls n _ _ w (EvP.refNeg_eq n hn)).mono fun e w' z => ⟨z.1, z.2.below⟩
theorem one_num (A1 : Option Addr) (c1 : Nat) (l : List S65) (n k m : Int) (t s : ByteArray) (w : World) : oneCalls 1 n t A1 c1 l k m s w (1, n, ⟨#[]⟩, 0) := by
 go_enter Tryz.func159, Tryz.ntmps159
 go_wp2_with (go_at_call 178; ((with_reducible refine (ref_num _ _).mono ?_); rintro e w1 ⟨rfl, hb1⟩; obtain ⟨bA, bB, bR⟩ := bx3 w _ _ _ _ _ _ _ _ _ _ _ _ _ rfl; obtain ⟨pr0, pr1, pr2, qr0, qr1, qr2, _⟩ := bR.below hb1; replace hb1 := Hd ((below3 _ _ _).trans (hb1.mono zq33))))
 exact bodyPost_ret (v := .tuple #[.agg #[.int .i64 1, .int .i64 n, .string ⟨#[]⟩], .int .i64 0]) (by simp [results, Tryz.results159, go_sem, *]) rfl ⟨rfl, below_set3 hb1.out _ zq4 _ _ _⟩
theorem one_str (A1 : Option Addr) (c1 : Nat) (l : List S65) (n k m : Int) (t s : ByteArray) (w : World) : oneCalls 2 n t A1 c1 l k m s w (2, 0, t, 0) := by
 go_enter Tryz.func159, Tryz.ntmps159
 go_wp2_with (go_at_call 171; ((with_reducible refine (ref_text _ _).mono ?_); rintro e w1 ⟨rfl, hb1⟩; obtain ⟨bA, bB, bR⟩ := bx3 w _ _ _ _ _ _ _ _ _ _ _ _ _ rfl; obtain ⟨pr0, pr1, pr2, qr0, qr1, qr2, _⟩ := bR.below hb1; replace hb1 := Hd ((below3 _ _ _).trans (hb1.mono zq33))))
 exact bodyPost_ret (v := .tuple #[.agg #[.int .i64 2, .int .i64 0, .string t], .int .i64 0]) (by simp [results, Tryz.results159, go_sem, *]) rfl ⟨rfl, below_set3 hb1.out _ zq4 _ _ _⟩
theorem one_far (A1 : Option Addr) (c1 : Nat) (l : List S65) (n k m : Int) (t s : ByteArray) (h : decide (n >= (l.length : Int)) = true) (w : World) : oneCalls 3 n t A1 c1 l k m s w (0, 0, ⟨#[]⟩, 3) := by
 go_enter Tryz.func159, Tryz.ntmps159; go_wp2; exact bodyPost_ret (v := .tuple #[.agg #[.int .i64 0, .int .i64 0, .string ⟨#[]⟩], .int .i64 3]) (by simp [results, Tryz.results159, go_sem, *]) rfl ⟨rfl, below3 _ _ _⟩
theorem one_len (A1 : Option Addr) (c1 : Nat) (l : List S65) (n m : Int) (t s : ByteArray) (w : World) : oneCalls 6 n t A1 c1 l 2 m s w (1, (s.size : Int), ⟨#[]⟩, 0) := by
 go_enter Tryz.func159, Tryz.ntmps159
 go_wp2_with (go_at_call 178; ((with_reducible refine (ref_num _ _).mono ?_); rintro e w1 ⟨rfl, hb1⟩; obtain ⟨bA, bB, bR⟩ := bx3 w _ _ _ _ _ _ _ _ _ _ _ _ _ rfl; obtain ⟨pr0, pr1, pr2, qr0, qr1, qr2, _⟩ := bR.below hb1; replace hb1 := Hd ((below3 _ _ _).trans (hb1.mono zq33))))
 exact bodyPost_ret (v := .tuple #[.agg #[.int .i64 1, .int .i64 (s.size : Int), .string ⟨#[]⟩], .int .i64 0]) (by simp [results, Tryz.results159, go_sem, *]) rfl ⟨rfl, below_set3 hb1.out _ zq4 _ _ _⟩
theorem one_lenk (A1 : Option Addr) (c1 : Nat) (l : List S65) (n k m : Int) (t s : ByteArray) (h : (k == 2) = false) (w : World) : oneCalls 6 n t A1 c1 l k m s w (0, 0, ⟨#[]⟩, 12) := by
 go_enter Tryz.func159, Tryz.ntmps159; go_wp2; exact bodyPost_ret (v := .tuple #[.agg #[.int .i64 0, .int .i64 0, .string ⟨#[]⟩], .int .i64 12]) (by simp [results, Tryz.results159, go_sem, *]) rfl ⟨rfl, below3 _ _ _⟩
theorem one_kind (A1 : Option Addr) (c1 : Nat) (l : List S65) (c n k m : Int) (t s : ByteArray) (h1 : (c == 1) = false) (h2 : (c == 2) = false) (h3 : (c == 3) = false) (h6 : (c == 6) = false) (h : (k == 1) = false) (w : World) : oneCalls c n t A1 c1 l k m s w (0, 0, ⟨#[]⟩, 12) := by
 go_enter Tryz.func159, Tryz.ntmps159; go_wp2; exact bodyPost_ret (v := .tuple #[.agg #[.int .i64 0, .int .i64 0, .string ⟨#[]⟩], .int .i64 12]) (by simp [results, Tryz.results159, go_sem, *]) rfl ⟨rfl, below3 _ _ _⟩
theorem one_not (A1 : Option Addr) (c1 : Nat) (l : List S65) (n m : Int) (t s : ByteArray) (w : World) : oneCalls 5 n t A1 c1 l 1 m s w (1, tv (m == 0), ⟨#[]⟩, 0) := by
 go_enter Tryz.func159, Tryz.ntmps159
 go_wp2_with (go_at_call 170; ((with_reducible refine (ref_truth _ _).mono ?_); rintro e w1 ⟨rfl, hb1⟩; obtain ⟨bA, bB, bR⟩ := bx3 w _ _ _ _ _ _ _ _ _ _ _ _ _ rfl; obtain ⟨pr0, pr1, pr2, qr0, qr1, qr2, _⟩ := bR.below hb1; replace hb1 := Hd ((below3 _ _ _).trans (hb1.mono zq33))))
 exact bodyPost_ret (v := .tuple #[.agg #[.int .i64 1, .int .i64 (tv (m == 0)), .string ⟨#[]⟩], .int .i64 0]) (by simp [results, Tryz.results159, go_sem, *]) rfl ⟨rfl, below_set3 hb1.out _ zq4 _ _ _⟩
theorem one_neg (A1 : Option Addr) (c1 : Nat) (l : List S65) (c n m : Int) (t s : ByteArray) (hm : EvP.R64 m) (h1 : (c == 1) = false) (h2 : (c == 2) = false) (h3 : (c == 3) = false) (h6 : (c == 6) = false) (h5 : (c == 5) = false) (w : World) : oneCalls c n t A1 c1 l 1 m s w (numR (okI (0 - m))) := by
 go_enter Tryz.func159, Tryz.ntmps159
 go_wp2_with (first | (go_at_call 179; ((with_reducible refine (ref_neg m hm _).mono ?_); rintro e w1 ⟨rfl, hb1⟩; obtain ⟨bA, bB, bR⟩ := bx3 w _ _ _ _ _ _ _ _ _ _ _ _ _ rfl; obtain ⟨pr0, pr1, pr2, qr0, qr1, qr2, _⟩ := bR.below hb1; have bR2 := Hd (bR.below hb1); replace hb1 := Hd ((below3 _ _ _).trans (hb1.mono zq33)))) | (go_at_call 172; ((with_reducible refine (ref_number _ _ _).mono ?_); rintro e w2 ⟨rfl, hb2⟩; clear pr0 pr1 pr2 qr0 qr1 qr2; obtain ⟨pr0, pr1, pr2, qr0, qr1, qr2, _⟩ := bR2.out.below hb2; replace hb2 := Hd (g_bel hb1.out hb2))))
 exact bodyPost_ret (v := .tuple #[.agg #[.int .i64 (numR (okI (0 - m))).1, .int .i64 (numR (okI (0 - m))).2.1, .string (numR (okI (0 - m))).2.2.1], .int .i64 (numR (okI (0 - m))).2.2.2]) (by simp [results, Tryz.results159, go_sem, *]) rfl ⟨rfl, below_set3 hb2.out _ zq4 _ _ _⟩
theorem one_get (A1 : Option Addr) (c1 : Nat) (l : List S65) (n k m : Int) (t s : ByteArray) (w : World) (hr : Kd.C k65 w A1 l.length l) (h0 : 0 <= n) (h1 : n < (l.length : Int)) : oneCalls 3 n t A1 c1 l k m s w ((rd_T65 l n).f0, (rd_T65 l n).f1, (rd_T65 l n).f2, 0) := by
 obtain ⟨ad, rfl, x0, x1, x2⟩ := at_T65 hr n h0 h1; generalize rd_T65 l n = X at *; have y0 := pw_cell_below (below3 (w := w) (.cells #[.int .i64 3, .int .i64 n, .string t] 68) (.cells #[.int .i64 k, .int .i64 m, .string s] 65) (.cells #[.int .i64 0, .int .i64 0, .string ⟨#[]⟩] 65)) x0; have y1 := pw_cell_below (below3 (w := w) (.cells #[.int .i64 3, .int .i64 n, .string t] 68) (.cells #[.int .i64 k, .int .i64 m, .string s] 65) (.cells #[.int .i64 0, .int .i64 0, .string ⟨#[]⟩] 65)) x1; have y2 := pw_cell_below (below3 (w := w) (.cells #[.int .i64 3, .int .i64 n, .string t] 68) (.cells #[.int .i64 k, .int .i64 m, .string s] 65) (.cells #[.int .i64 0, .int .i64 0, .string ⟨#[]⟩] 65)) x2; have b0 : decide (n >= (l.length : Int)) = false := DEF zq4; have p0 : (0 <= n) = True := eq_true h0; have p1 : (n < (l.length : Int)) = True := eq_true h1; clear h0 h1 hr; go_enter Tryz.func159, Tryz.ntmps159; go_wp2; exact bodyPost_ret (v := .tuple #[.agg #[.int .i64 X.f0, .int .i64 X.f1, .string X.f2], .int .i64 0]) (by simp [results, Tryz.results159, go_sem, *]) rfl ⟨rfl, below3 _ _ _⟩
theorem hone_calls (A1 : Option Addr) (c1 : Nat) (l : List S65) (c n k m : Int) (t s : ByteArray) (w : World) (hr : Kd.C k65 w A1 l.length l) (hn : c = 3 -> 0 <= n) (hm : EvP.R64 m) : oneCalls c n t A1 c1 l k m s w (oneV c n t l k m s) := by
 have B := fun {a b : Int} (h : ¬ a = b) => (BNM h : (a == b) = false)
 unfold oneV
 by_cases h1 : c = 1
 ·subst h1; exact one_num A1 c1 l n k m t s w
 rw [if_neg h1]
 by_cases h2 : c = 2
 ·subst h2; exact one_str A1 c1 l n k m t s w
 rw [if_neg h2]
 by_cases h3 : c = 3
 ·subst h3
  rw [if_pos rfl]
  by_cases h : n >= (l.length : Int)
  ·rw [if_pos h]; exact one_far A1 c1 l n k m t s (DET h) w
  ·rw [if_neg h]; exact one_get A1 c1 l n k m t s w hr (hn rfl) zq4
 rw [if_neg h3]
 by_cases h6 : c = 6
 ·subst h6
  rw [if_pos rfl]
  by_cases h : k = 2
  ·subst h; exact one_len A1 c1 l n m t s w
  ·rw [if_neg h]; exact one_lenk A1 c1 l n k m t s (B h) w
 rw [if_neg h6]
 by_cases hk : k = 1
 ·subst hk
  rw [if_pos rfl]
  by_cases h5 : c = 5
  ·subst h5; exact one_not A1 c1 l n m t s w
  ·rw [if_neg h5]; exact one_neg A1 c1 l c n m t s hm (B h1) (B h2) (B h3) (B h6) (B h5) w
 ·rw [if_neg hk]; exact one_kind A1 c1 l c n k m t s (B h1) (B h2) (B h3) (B h6) (B hk) w
end Go.Proofs.YtmkgecapkeojaaaGreat.Eg
end
section
namespace Go.Proofs.YtmkgecapkeojaaaGreat.Eg
open Go.Proofs.YtmkgecapkeojaaaGreat Go.Proofs.YtmkgecapkeojaaaGreat.PDa
open Go.RowKit Go.Proofs.YtmkgecapkeojaaaGreatW.PrintWords Go.Proofs.YtmkgecapkeojaaaGreatW.PrintLast Go.Proofs.YtmkgecapkeojaaaGreatW.PrintMore
open Go.Proofs.YtmkgecapkeojaaaGreat.Rw
open Go.Proofs.YtmkgecapkeojaaaGreat.EvP (T takes takes_R tail_C)
abbrev Op18 := S68
abbrev kOp := k68
abbrev tO : Nat := 68
abbrev tX : Nat := 24
abbrev tXs : Nat := 32
def kidsT : T -> List T
 | .l _ => []
 | .u _ t => [t]
 | .b _ t s => [t, s]
def flT : List T -> List Op18
 | [] => []
 | t :: ts => t.fl ++ flT ts
theorem flT_snoc (s : T) : ∀ ts : List T, flT (ts ++ [s]) = flT ts ++ s.fl
 | [] => by simp [flT]
 | t :: ts => by rw [List.cons_append, flT, flT, flT_snoc s ts, List.append_assoc]
theorem kids_fl (t : T) (ht : t.ok) : t.fl = flT (kidsT t) ++ [t.top] /\ t.kids = (kidsT t).map T.fl /\ (takes t.top.f0 = ((kidsT t).length : Int)) /\ (kidsT t).length <= 2 /\ ∀ s ∈ kidsT t, s.ok := by
 cases t with
 | l o => exact ⟨by simp [T.fl, kidsT, flT, T.top], rfl, by rw [T.top, ht.2]; rfl, by simp [kidsT], by simp [kidsT]⟩
 | u o t => exact ⟨by simp [T.fl, kidsT, flT, T.top], rfl, by rw [T.top, ht.2.1]; rfl, by simp [kidsT], by simp [kidsT]; exact ht.2.2⟩
 | b o t s => exact ⟨by simp [T.fl, kidsT, flT, T.top], rfl, by rw [T.top, ht.2.1]; rfl, by simp [kidsT], by simp [kidsT]; exact ht.2.2⟩
theorem hparts_calls (t : T) (ht : t.ok) (hl : t.fl.length <= 64) (A0 : Option Addr) (c0 : Nat) (w : World) (hx : Kd.C kOp w A0 t.fl.length t.fl) (hc0 : t.fl.length <= c0) :
  Calls Tryz.prog 157 #[.slice A0 t.fl.length c0] w fun e w' => ∃ A c, e = .returned (.slice A t.kids.length c) /\ Kd.C (Kd.slice tO kOp) w' A t.kids.length t.kids /\ Below w.heap.size w w' := by
 obtain ⟨hfl, hkd, htk, hk2, hok⟩ := kids_fl t ht; obtain ⟨K0, hK0⟩ : ∃ z, kidsT t = z := ⟨_, rfl⟩
 obtain ⟨o, ho⟩ : ∃ z, t.top = z := ⟨_, rfl⟩
 rw [hK0, ho] at hfl; rw [hK0, ho] at htk; rw [hK0] at hkd hk2 hok; obtain ⟨x, hxe⟩ : ∃ z, t.fl = z := ⟨_, rfl⟩
 rw [hkd]; rw [hxe] at hfl hx hc0 hl ⊢; have huX := Tryz.underlying24; have huXs := Tryz.underlying32; obtain ⟨i0, hi0, _, hsz0, _⟩ := info_parts info68; have hxl : x.length = (flT K0).length + 1 := by rw [hfl]; simp
 obtain ⟨ad, e1, x0, _, _⟩ := at_T68 hx (((flT K0).length : Nat) : Int) zq4 zq4; have hro : rd_T68 x (((flT K0).length : Nat) : Int) = o := by
  unfold rd_T68; rw [Int.toNat_natCast, hfl, List.getD_eq_getElem?_getD]; simp
 rw [Int.toNat_natCast, hro] at x0; cases e1; obtain ⟨m, hm⟩ : ∃ z, (flT K0).length = z := ⟨_, rfl⟩
 rw [hm] at x0 hxl; have hw1 : wrap64 ((x.length : Int) - 1) = (m : Int) := by unfold wrap64; omega
 have pK : (0 <= (m : Int)) = True := eq_true zq4; have qK : ((m : Int) < (x.length : Int)) = True := eq_true zq4; have hcut := cut_to (P := Tryz.prog) tX tO .i64 huX hi0 (some ad) x.length c0 (m : Int) zq4 zq4 hc0; simp only [Int.toNat_natCast] at hcut; obtain ⟨kt, hkt⟩ := (takes_R o.f0).get; rw [htk] at hkt; have TC := Hd (fun W => r17_Takes.calls kt o.f0 (K0.length : Int) W hkt); have X0 := Hd x0; have HX := Hd hx; have HM := Hd (show Kd.C kOp w (some ad) m (flT K0) by
  have h := Kd.C_take (m := m) hx zq4; rw [show x.take m = flT K0 by rw [hfl, <- hm, List.take_left']; rfl, hm] at h; exact h)
 have HXL := Hd hxl; have HL := Hd hl; have HOK := Hd hok; have HK2 := Hd hk2; have HFM := Hd hm; have HC0 := Hd hc0; clear x0 hx hxl hl hok hk2 hm hfl hkd htk hkt hxe hK0 ho hro hc0 ht; go_enter Tryz.func157, Tryz.ntmps157
 go_wp2_with (first | ((with_reducible refine gate_dst (N := 7) rfl ?_); refine Kd.R_lit (kHd tO kOp w) _ tX ?hg (N := 7) ?hd (xs := ([] : List (List Op18))) (inner := []) (ok := fun _ => True) (okp := fun _ => True) ?hr ?hp (fun _ hk => hk) trivial (Below.refl _ _) (Nat.le_refl _) zq30 ?_; (case hd => rfl); (case hg => rfl); (case hr => first | (go_simp; done) | (go_simp; rfl)); (case hp => exact (Reps.none _ _)); intro v7 w1 ho1 hb1 hg_ hnew_; have HO1 := Hd ho1; have HB1 := Hd hb1; clear hg_ hnew_ hb1 ho1))
 clear hcut
 go_loopw [3, 4, 5] (fun v3 v4 v5 wr => ∃ (ks : List T) (outs : List (List Op18)) (A3 : Option Addr) (c3 : Nat) (A4 : Option Addr) (c4 : Nat), v5 = .int .i64 ((K0.length - ks.length : Nat) : Int) /\ v3 = .slice A3 outs.length c3 /\ v4 = .slice A4 (flT ks).length c4 /\ ks.length <= K0.length /\
  Aside0 ((kHd tO kOp wr).R tX wr w.heap.size (fun _ => True) (.slice A3 outs.length c3) outs) /\ Aside0 (Kd.C kOp w A4 (flT ks).length (flT ks)) /\ Aside0 ((flT ks).length <= c4) /\ Aside0 ((flT ks).length <= 64) /\ Aside0 (Below w.heap.size w wr) /\ Aside0 (K0.map T.fl = ks.map T.fl ++ outs) /\ Aside0 (∀ s ∈ ks, s.ok)) (fun v3 v4 v5 wr => K0.length - (intOf v5).toNat)
 case atStart =>
  obtain ⟨A3, c3, rfl⟩ := Kd.R_slice HO1.out; have h1 := HXL.out; have h2 := HL.out; have h3 := HC0.out; have h4 := HFM.out; exact ⟨K0, [], A3, c3, _, _, by rw [Nat.sub_self]; rfl, rfl, by rw [HFM.out], Nat.le_refl _, ⟨kHd_up HB1.out HO1.out⟩, ⟨by rw [HFM.out]; exact HM.out⟩, ⟨by omega⟩, ⟨by omega⟩, ⟨HB1.out⟩, ⟨by simp⟩, ⟨HOK.out⟩⟩
 case round =>
  clear HO1 HB1 HM HOK; obtain ⟨ks, outs, A3, c3, A4, c4, rfl, rfl, rfl, hks, HO, HR, HC4, HN4, HB, HEQ, HKO⟩ := hrel; have x0 := pw_cell_below HB.out X0.out; obtain ⟨rest, hrest⟩ : ∃ z, flT ks = z := ⟨_, rfl⟩
  obtain ⟨j, hj⟩ : ∃ z, K0.length - ks.length = z := ⟨_, rfl⟩
  rw [hrest] at HR HC4 HN4 ⊢; rw [hj]; have HJ := Hd hj; have HRE := Hd hrest; clear hj hrest
  rcases List.eq_nil_or_concat ks with hk | ⟨ks', s, hk⟩
  ·have bj : decide (j < K0.length) = false := DEF (by have := HJ.out; rw [hk] at this; simp at this; omega)
   have HE := Hd (show outs = K0.map T.fl by rw [HEQ.out, hk]; rfl); clear hk HEQ
   go_wp2_with (go_at_call 130; refine hold3 ?_)
   refine ⟨?_⟩; refine (TC.out _).mono ?_; rintro e wt ⟨rfl, hbt⟩; have HBt := Hd hbt.below; clear hbt; go_wp2; go_ret; rw [<- HE.out]; exact ⟨A3, c3, rfl, kHd_C HBt.out (Kd.R_reads' (Kd.R_below HO.out HBt.out)).2.2, HB.out.trans (HBt.out.mono HB.out.size)⟩
  ·rw [List.concat_eq_append] at hk
   have hrp : rest = flT ks' ++ s.fl := by rw [<- HRE.out, hk, flT_snoc]
   have hso : s.ok := HKO.out s (by rw [hk]; simp); have hkl : ks.length = ks'.length + 1 := by rw [hk]; simp
   have bj : decide (j < K0.length) = true := DET (by have := HJ.out; omega); obtain ⟨p, hp⟩ : ∃ z, flT ks' = z := ⟨_, rfl⟩
   rw [hp] at hrp; have hrl : rest.length = p.length + s.fl.length := by rw [hrp, List.length_append]
   have hn4 := HN4.out; have hc4 := HC4.out; obtain ⟨kl, hkl2⟩ := (tail_C s hso p (by rw [<- hrp]; exact hn4)).get; rw [<- hrp] at hkl2; have LC := Hd (fun W h => r17_Tail.calls kl A4 c4 rest (s.fl.length : Int) W h hc4 hkl2); have hw2 : wrap64 ((rest.length : Int) - (s.fl.length : Int)) = (p.length : Int) := by unfold wrap64; omega
   obtain ⟨i0, hi0, _, hsz0, _⟩ := info_parts info68; have hct := cut_to (P := Tryz.prog) tX tO .i64 huX hi0 A4 rest.length c4 (p.length : Int) zq4 zq4 hc4; have hcf := cut_from (P := Tryz.prog) tX tO .i64 huX hi0 3 hsz0 A4 rest.length c4 (p.length : Int) zq4 zq4; simp only [Int.toNat_natCast] at hct hcf; rw [show rest.length - p.length = s.fl.length by omega] at hcf; have HRT := Hd (show Kd.C kOp w A4 p.length p by
    have h := Kd.C_take (m := p.length) HR.out zq4; rw [hrp, List.take_left'] at h <;> first | exact h | rfl)
   have HRD := Hd (show Kd.C kOp w (if c4 = p.length then A4 else A4.map (·.add (p.length * 3))) s.fl.length s.fl by
    have h := Kd.C_drop (m := p.length) HR.out zq4 hc4; rw [hrp, List.drop_left'] at h <;> first | exact h | rfl)
   obtain ⟨AF, hAF⟩ : ∃ z, (if c4 = p.length then A4 else A4.map (·.add (p.length * 3))) = z := ⟨_, rfl⟩
   rw [hAF] at hcf HRD; obtain ⟨sf, hsf⟩ : ∃ z, s.fl = z := ⟨_, rfl⟩
   rw [hsf] at hcf HRD LC hw2 hrl; have HSF := Hd hsf; have HKS := Hd hk; have HPP := Hd hp; have HKL := Hd hkl; have HRL := Hd hrl; clear hk hp hkl hrp hAF hkl2 hsf hi0 hsz0 hso hrl hn4 hc4
   go_wp2_with (go_at_call 130; refine hold3 ?_)
   refine ⟨?_⟩; refine (TC.out _).mono ?_; rintro e wt ⟨rfl, hbt⟩; have HBt := Hd hbt.below; clear hbt
   go_wp2_with (go_at_call 88; refine hold3 ?_)
   refine ⟨?_⟩; refine (LC.out _ (Kd.C_below HR.out (HB.out.trans (HBt.out.mono HB.out.size)))).mono ?_; rintro e wu ⟨rfl, hbu⟩; have HBU := Hd (show Below wr.heap.size wr wu from HBt.out.trans (hbu.mono HBt.out.size)); have HRX := Hd (fun (W : World) (h : Below wu.heap.size wu W) => Kd.C_below HRD.out ((HB.out.trans (HBU.out.mono HB.out.size)).trans (h.mono (Nat.le_trans HB.out.size HBU.out.size)))); have HSL := Hd (show sf.length <= 64 by have := HRL.out; have := HN4.out; omega); have HOL := Hd (show outs.length <= 64 by have h := congrArg List.length HEQ.out; rw [List.length_map, List.length_append] at h; have := HK2.out; omega); clear hbu HBt LC x0
   go_wp2_with (first
    | ((with_reducible refine gate_dst (N := 27) rfl ?_); refine Kd.R_lit kOp _ tO ?hg (N := 27) ?hd (xs := ([] : List Op18)) (inner := []) (ok := fun _ => True) (okp := fun _ => True) ?hr ?hp (fun _ hk => hk) trivial (Below.refl _ _) (Nat.le_refl _) zq30 ?_; (case hd => rfl); (case hg => rfl); (case hr => first | (go_simp; done) | (go_simp; rfl)); (case hp => exact (Reps.none _ _)); intro v27 wa ho hb hg_ hnew_; have HOA := Hd ho; have HBA := Hd hb; clear ho hb hg_ hnew_)
    | ((with_reducible refine gate_dst (N := 34) rfl ?_); refine Kd.R_append_rows kOp (w0 := wu) wu.heap.size rfl (.tmp 27) (.tmp 33) tX tO (.agg #[.int .i64 0, .int .i64 0, .string ⟨#[]⟩]) 32 rfl huX info68 rfl zq34 zq4 v27 [] sf _ _ _ (fun _ => True) (fun _ => False) rfl rfl HOA.out (HRX.out _ HBA.out) (fun _ _ h => h) (fun _ h => h.elim) (fun _ _ => trivial) HBA.out HBA.out.size ?aL ?_; (case aL => have := HSL.out; rw [List.length_nil]; omega); intro v34 wb ho hb hg_ hnew_; rw [List.nil_append] at ho; obtain ⟨A34, c34, rfl⟩ := Kd.R_slice ho; have HOB := Hd (Kd.R_reads' ho); have HBB := Hd hb; clear ho hb hg_ hnew_)
    | ((with_reducible refine gate_dst (N := 35) rfl ?_); refine Kd.R_lit (kHd tO kOp wb) (w0 := wb) wb.heap.size tX ?hg (N := 35) ?hd (xs := [sf]) (inner := [.slice A34 sf.length c34]) (ok := fun _ => True) (okp := fun _ => True) ?hr ?hp (fun _ hk => hk) trivial (Below.refl _ _) (Nat.le_refl _) zq30 ?_; (case hd => rfl); (case hg => rfl); (case hr => first | (go_simp; done) | (go_simp; rfl)); (case hp => exact (Reps.one ⟨A34, c34, rfl, HOB.out.2.1, HOB.out.2.2⟩ (Reps.none _ _))); intro v35 wc ho hb hg_ hnew_; have HOC := Hd ho; have HBC := Hd hb; clear ho hb hg_ hnew_)
    | ((with_reducible refine gate_dst (N := 37) rfl ?_); refine Kd.R_append_rows (kHd tO kOp wb) (w0 := wb) wb.heap.size rfl (.tmp 35) (.tmp 36) tXs tX (.slice none 0 0) 24 rfl huXs info24 rfl Nat.one_pos zq4 v35 [sf] outs _ _ _ (fun _ => True) (fun _ => False) rfl rfl HOC.out ?aR (fun _ _ h => h) (fun _ h => h.elim) (fun _ _ => trivial) HBC.out HBC.out.size ?aL ?_; (case aR => exact (Kd.R_reads' (Kd.R_below (kHd_up (HBU.out.trans (HBB.out.mono HBU.out.size)) HO.out) ((HBU.out.trans (HBB.out.mono HBU.out.size)).trans (HBC.out.mono (Nat.le_trans HBU.out.size HBB.out.size))))).2.2); (case aL => have := HOL.out; rw [List.length_singleton]; omega); intro v37 wd ho hb hg_ hnew_; have HOD := Hd ho; have HBD := Hd hb; clear ho hb hg_ hnew_))
   obtain ⟨A9, c9, rfl⟩ := Kd.R_slice HOD.out; have hw3 : wrap64 ((j : Int) + 1) = ((K0.length - ks'.length : Nat) : Int) := by have h1 := HJ.out; have h2 := HKL.out; have h3 := HK2.out; unfold wrap64; omega
   have HBX := Hd (HB.out.trans ((HBU.out.trans ((HBB.out.trans (HBD.out.mono HBB.out.size)).mono HBU.out.size)).mono HB.out.size)); have HSZ := Hd (Nat.le_trans HB.out.size (Nat.le_trans HBU.out.size HBB.out.size)); go_roundw
   case rel => exact ⟨.slice A9 ([sf] ++ outs).length c9, .slice A4 p.length c4, .int .i64 (wrap64 ((j : Int) + 1)), ⟨ks', by rw [hw3], [sf] ++ outs, A9, c9, rfl, A4, c4, by rw [HPP.out], by have := HKL.out; omega, ⟨Kd.R_lower (kHd_up HBD.out HOD.out) HSZ.out⟩, ⟨by rw [HPP.out]; exact HRT.out⟩, ⟨by rw [HPP.out]; have := HRL.out; have := HC4.out; omega⟩, ⟨by rw [HPP.out]; have := HRL.out; have := HN4.out; omega⟩, ⟨HBX.out⟩, ⟨by rw [HEQ.out, HKS.out, List.map_append, List.append_assoc, <- HSF.out]; rfl⟩, ⟨fun z hz => HKO.out z (by rw [HKS.out]; simp [hz])⟩⟩, rfl, rfl, rfl⟩
   case measure => rw [hw3]; simp [intOf]; have h1 := HJ.out; have h2 := HKL.out; omega
end Go.Proofs.YtmkgecapkeojaaaGreat.Eg
end
section
namespace Go.Proofs.YtmkgecapkeojaaaGreat.Eg
open Go.Proofs.YtmkgecapkeojaaaGreat Go.Proofs.YtmkgecapkeojaaaGreat.PDa
open Go.RowKit Go.Proofs.YtmkgecapkeojaaaGreatW.PrintWords Go.Proofs.YtmkgecapkeojaaaGreatW.PrintLast Go.Proofs.YtmkgecapkeojaaaGreatW.PrintMore
open Go.Proofs.YtmkgecapkeojaaaGreat.Rw
open Go.Proofs.YtmkgecapkeojaaaGreat.EvP (outV evL evU evB VOk ROk okW takes T good_ev R64)
abbrev Out4 := Int × Int × ByteArray × Int
theorem oneV_L (row : List Vl) (hr : ROk row) (o : Op18) (hw : okW o = true) (ht : takes o.f0 = 0) : oneV o.f0 o.f1 o.f2 row 0 0 ⟨#[]⟩ = outV (evL row o) := by
 unfold oneV
 rcases EvP.takes_0 ht with h | h | h
 ·rw [if_pos h, show evL row o = .ok (.num o.f1) by unfold evL; rw [if_pos h]]; rfl
 ·rw [if_neg zq4, if_pos h, show evL row o = .ok (.txt o.f2) by unfold evL; rw [if_neg zq4, if_pos h]]; rfl
 ·have hg := EvP.okW_get hw h
  rw [if_neg zq4, if_neg zq4, if_pos h]
  by_cases hn : o.f1 < (row.length : Int)
  ·have hm := EvP.rd_mem hg.1 hn
   have hv := (EvP.getTh_ok ((EvP.rowMay_at hr.may).2 _ hm) (hr.r64 _ hm)).2; rw [if_neg zq4, show evL row o = .ok (getTh (rd_T65 row o.f1)) by unfold evL; rw [if_neg zq4, if_neg zq4, if_pos hn]]; generalize rd_T65 row o.f1 = v at *
   show (v.f0, v.f1, v.f2, (0 : Int)) = ((thVal3 (getTh v)).1, (thVal3 (getTh v)).2.1, (thVal3 (getTh v)).2.2, 0)
   rw [hv]
  ·rw [if_pos zq4, show evL row o = .error 3 by unfold evL; rw [if_neg zq4, if_neg zq4, if_neg hn]]; rfl
theorem oneV_U (row : List Vl) (o : Op18) (ht : takes o.f0 = 1) (x : Th) : oneV o.f0 o.f1 o.f2 row (thVal3 x).1 (thVal3 x).2.1 (thVal3 x).2.2 = outV (evU o.f0 x) := by
 unfold oneV
 rcases EvP.takes_1 ht with h | h | h <;> rw [if_neg zq4, if_neg zq4, if_neg zq4, h]
 ·cases x with
  | num a => exact EvP.outV_num _
  | txt a => rfl
 ·cases x <;> rfl
 ·cases x <;> rfl
def thV (x : Th) : Vl := ⟨(thVal3 x).1, (thVal3 x).2.1, (thVal3 x).2.2⟩
theorem bx1 (w : World) (x0 x1 x2 : Value) (t : TypeId) : Bx w.heap.size (w.alloc (.cells #[x0, x1, x2] t)) x0 x1 x2 := by
 refine ⟨?_, ?_, ?_, ?_, ?_, ?_, ?_⟩
 all_goals first | (simp [go_sem]; done) | (simp; omega)
def goV (fin : List Th -> Out4) : List (Except Int Th) -> List Th -> Out4
 | [], vs => fin vs
 | .error e :: _, _ => outV (.error e)
 | .ok v :: rs, vs => goV fin rs (vs ++ [v])
def goS (fin : List Th -> Out4) (rs : List (Except Int Th)) (vs : List Th) : Except Int Th -> Out4
 | .error e => outV (.error e)
 | .ok v => goV fin rs (vs ++ [v])
theorem goV_cons (fin : List Th -> Out4) (rs : List (Except Int Th)) (vs : List Th) (r : Except Int Th) : goV fin (r :: rs) vs = goS fin rs vs r := by cases r <;> rfl
abbrev OfIs (A1 : Option Addr) (c1 : Nat) (row : List Vl) (W : World) (x : List Op18) (r : Out4) : Prop :=
 ∀ (A0 : Option Addr) (c0 : Nat) (w : World), Kd.C kOp w A0 x.length x -> x.length <= c0 -> Below W.heap.size W w ->
  Calls Tryz.prog 131 #[.slice A0 x.length c0, .slice A1 row.length c1] w fun e w' => OutV r e /\ Below w.heap.size w w'
abbrev TwoIs (c : Int) (a b : Th) (r : Out4) : Prop := ∀ w : World, Calls Tryz.prog 158 #[.int .i64 c, .agg #[.int .i64 (thV a).f0, .int .i64 (thV a).f1, .string (thV a).f2], .agg #[.int .i64 (thV b).f0, .int .i64 (thV b).f1, .string (thV b).f2]] w fun e w' => OutV r e /\ Below w.heap.size w w'
def hof.T12 : Bool × List (List Nat × List Nat) := (true, [([], []), ([0], [0]), ([], []), ([2], [2]), ([3], [3]), ([], []), ([5], [5]), ([6], [6]), ([1, 4, 7], [1, 4, 7]), ([8], [8]), ([8], [8]), ([9, 8, 0, 1, 2, 3, 4, 5, 6, 7, 8, 9, 10], [9]), ([10, 11, 0, 1, 2, 3, 4, 5, 6, 7, 8, 9, 10, 11], [10])])
def hof.B12 : List Nat := [0, 1, 0, 4, 12, 0, 32, 96, 255, 511, 511, 2047, 4095]
theorem hof.tab12 : rtab .any (opsOf Tryz.f131 12) = hof.T12 := by kernel_rfl
theorem hof.bits12 : waitsOk hof.T12.2 hof.B12 = true := by kernel_rfl
theorem of_walk (A1 : Option Addr) (c1 : Nat) (row : List Vl) (W0 : World) (hrow : Kd.C kV W0 A1 row.length row) (hc1 : row.length <= c1) (q : List Op18) (o : Op18) (ps : List (List Op18)) (rs : List (Except Int Th)) (fin : List Th -> Out4)
  (hl : (q ++ [o]).length <= 64) (hps : ps.length <= 2) (hrs : rs.length = ps.length)
  (PC : ∀ (A0 : Option Addr) (c0 : Nat) (w : World), Kd.C kOp w A0 (q ++ [o]).length (q ++ [o]) -> (q ++ [o]).length <= c0 -> Calls Tryz.prog 157 #[.slice A0 (q ++ [o]).length c0] w fun e w' => ∃ A c, e = .returned (.slice A ps.length c) /\ Kd.C (Kd.slice 68 kOp) w' A ps.length ps /\ Below w.heap.size w w')
  (IH : ∀ (i : Nat) (p : List Op18) (r : Except Int Th), ps[i]? = some p -> rs[i]? = some r -> OfIs A1 c1 row W0 p (outV r) /\ EvP.Good r)
  (F2 : ∀ a b, VOk a -> VOk b -> ps.length = 2 -> TwoIs o.f0 a b (fin [a, b])) (F1 : ∀ a, VOk a -> ps.length = 1 -> ∀ w, Below W0.heap.size W0 w -> oneCalls o.f0 o.f1 o.f2 A1 c1 row (thV a).f0 (thV a).f1 (thV a).f2 w (fin [a])) (F0 : ps.length = 0 -> ∀ w, Below W0.heap.size W0 w -> oneCalls o.f0 o.f1 o.f2 A1 c1 row 0 0 ⟨#[]⟩ w (fin [])) :
  OfIs A1 c1 row W0 (q ++ [o]) (goV fin rs []) := by
 intro A0 c0 w hx hc0 hW; have huV := Tryz.underlying38; obtain ⟨x, hxq⟩ : ∃ x, q ++ [o] = x := ⟨_, rfl⟩
 rw [hxq] at hx hc0 PC hl ⊢; have hxl : x.length = q.length + 1 := by rw [<- hxq]; simp
 have hxo : x[q.length]? = some o := by rw [<- hxq]; simp
 have HX := Hd hx; have HRW := Hd hrow; have HC1 := Hd hc1; have HW := Hd hW; have PX := Hd (fun w1 h => PC A0 c0 w1 h hc0); have HIH := Hd IH; have HRS := Hd hrs; have H2 := Hd F2; have H1 := Hd F1; have H0 := Hd F0; have HXO := Hd hxo; have HXL := Hd hxl; have HL := Hd hl; clear hx hrow hc1 hW PC IH hrs F2 F1 F0 hxq hxo hxl hl; go_enter Tryz.func131, Tryz.ntmps131
 go_wp2_with (go_at_call 157; refine hold3 ?_)
 refine ⟨?_⟩; obtain ⟨wA, hwA⟩ : ∃ x, x = w.alloc (.cells #[.int .i64 0, .int .i64 0, .string ⟨#[]⟩] 65) := ⟨_, rfl⟩
 have HBA := Hd (show Below w.heap.size w wA by rw [hwA]; exact below_alloc (Below.refl _ _) _); have BA := Hd (show Bx w.heap.size wA (.int .i64 0) (.int .i64 0) (.string ⟨#[]⟩) by rw [hwA]; exact bx1 _ _ _ _ _); rw [<- hwA]; clear hwA; refine (PX.out wA (Kd.C_below HX.out HBA.out)).mono ?_; rintro e w1 ⟨Ap, cp, rfl, hps1, hb1⟩; have HPS := Hd hps1; have BR := Hd (BA.out.below hb1); have HB1 := Hd (HBA.out.trans (hb1.mono HBA.out.size)); clear hps1 hb1 BA HBA PX
 go_wp2_with (first | ((with_reducible refine gate_dst (N := 15) rfl ?_); refine Kd.R_lit kV _ tV ?hg (N := 15) ?hd (xs := ([] : List Vl)) (inner := []) (ok := fun _ => True) (okp := fun _ => True) ?hr ?hp (fun _ hk => hk) trivial (Below.refl _ _) (Nat.le_refl _) zq30 ?_; (case hd => rfl); (case hg => rfl); (case hr => first | (go_simp; done) | (go_simp; rfl)); (case hp => exact (Reps.none _ _)); intro v7 w2 ho2 hb2 hg_ hnew_; have HO2 := Hd ho2; have HB2 := Hd hb2; clear hg_ hnew_ hb2 ho2))
 go_loopw [7, 8] (fun v7 v8 wr => ∃ (i : Nat) (vs : List Th) (A7 : Option Addr) (c7 : Nat), i <= ps.length /\ v8 = .int .i64 (i : Int) /\ v7 = .slice A7 vs.length c7 /\ Aside0 (Kd.R kV tV wr w1.heap.size (fun _ => True) (.slice A7 vs.length c7) (vs.map thV)) /\ Aside0 (Below w1.heap.size w1 wr) /\ Aside0 (vs.length = i) /\ Aside0 (∀ v ∈ vs, VOk v) /\ Aside0 (goV fin rs [] = goV fin (rs.drop i) vs)) (fun v7 v8 wr => ps.length - (intOf v8).toNat)
 case atStart =>
  obtain ⟨A7, c7, rfl⟩ := Kd.R_slice HO2.out; exact ⟨0, [], A7, c7, Nat.zero_le _, rfl, rfl, ⟨HO2.out⟩, ⟨HB2.out⟩, ⟨rfl⟩, ⟨by simp⟩, ⟨by rw [List.drop_zero]⟩⟩
 case round =>
  clear HO2 HB2; obtain ⟨i, vs, A7, c7, hi, rfl, rfl, HO, HB, HN, HVS, HEQ⟩ := hrel; have HBW := Hd (HB1.out.trans (HB.out.mono HB1.out.size))
  by_cases c : i < ps.length
  ·obtain ⟨p, hp⟩ : ∃ p, ps[i] = p := ⟨_, rfl⟩
   obtain ⟨ad, Ax, cx, e1, x0, xl, xC⟩ := at_L7 (Kd.C_below HPS.out HB.out) (i : Int) zq4 zq4; have hrd : rd_L7 ps (i : Int) = p := by
    unfold rd_L7; rw [Int.toNat_natCast, List.getD_eq_getElem?_getD, List.getElem?_eq_getElem c]; exact hp
   rw [Int.toNat_natCast, hrd] at x0; rw [hrd] at xl xC; cases e1; have hri : i < rs.length := by rw [HRS.out]; exact c
   obtain ⟨rp, hrp⟩ : ∃ z, rs[i] = z := ⟨_, rfl⟩
   obtain ⟨hof, hgd⟩ := HIH.out i p rp (by rw [List.getElem?_eq_getElem c, hp]) (by rw [List.getElem?_eq_getElem hri, hrp]); have OC := Hd (hof Ax cx wr xC xl (HW.out.trans (HBW.out.mono HW.out.size))); have HST := Hd (show goV fin rs [] = goS fin (rs.drop (i + 1)) vs rp by rw [HEQ.out, List.drop_eq_getElem_cons hri, hrp, goV_cons]); have pI : (0 <= (i : Int)) = True := eq_true zq4; have qI : ((i : Int) < (ps.length : Int)) = True := eq_true zq4; clear xl xC hof hrd hp hrp hri; cases rp with
   | error er =>
    have hne : (er != 0) = true := bne_iff_ne.mpr hgd; clear hgd
    go_wp2_with (go_at_call 131; refine hold3 ?_)
    refine ⟨?_⟩; refine OC.out.mono ?_; rintro e w3 ⟨he, hb3⟩; obtain rfl : e = .returned (.tuple #[.agg #[.int .i64 0, .int .i64 0, .string ⟨#[]⟩], .int .i64 er]) := he; obtain ⟨pr0, pr1, pr2, qr0, qr1, qr2, prl⟩ := (BR.out.below HB.out).below hb3; have HB3 := Hd (HBW.out.trans (hb3.mono HBW.out.size)); clear hb3 OC; go_wp2; exact bodyPost_ret (v := .tuple #[.agg #[.int .i64 0, .int .i64 0, .string ⟨#[]⟩], .int .i64 er]) (by simp [results, Tryz.results131, go_sem, *]) rfl ⟨by rw [HST.out]; rfl, below_alloc (below_set3 HB3.out _ (Nat.le_refl _) _ _ _) _⟩
   | ok v =>
    have HGD := Hd (show VOk v from hgd); clear hgd
    go_wp2_with (go_at_call 131; refine hold3 ?_)
    refine ⟨?_⟩; refine OC.out.mono ?_; rintro e w3 ⟨he, hb3⟩; obtain rfl : e = .returned (.tuple #[.agg #[.int .i64 (thV v).f0, .int .i64 (thV v).f1, .string (thV v).f2], .int .i64 0]) := he; have HB3 := Hd (HB.out.trans (hb3.mono HB.out.size)); have HO3 := Hd (Kd.R_below HO.out hb3); have HLV := Hd (show (vs.map thV).length <= 2 by rw [List.length_map, HN.out]; omega); clear hb3 OC HO
    go_wp2_with (((with_reducible refine gate_dst (N := 38) rfl ?_); at_builtin; refine Kd.R_append kV (w0 := w1) w1.heap.size rfl (.tmp 35) (.tmp 37) 38 tV (.agg #[(.int .i64 0), (.int .i64 0), (.string ⟨#[]⟩)]) 32 rfl huV info65 rfl zq34 zq4 (.slice A7 vs.length c7) (vs.map thV) (thV v) [.int .i64 (thV v).f0, .int .i64 (thV v).f1, .string (thV v).f2] (fun _ => True) (fun _ => False) rfl (by show Value.slice (some ⟨w3.heap.size + 1, 0, none⟩) 1 1 = _; rw [World.size_alloc]) ?aP (fun _ h => h.elim) (fun _ _ => trivial) ?aO ?aB ?aS ?aL ?_; (case aP => exact k65_mkM _ _ _ (thV v)); (case aO => exact Kd.R_alloc HO3.out _); (case aB => exact below_alloc HB3.out _); (case aS => rw [World.size_alloc]; have := HB3.out.size; omega); (case aL => have := HLV.out; omega); intro v38 w4 ho hb hg_ hnew_; have HO4 := Hd ho; have HB4 := Hd hb; clear ho hb hg_ hnew_))
    rw [show vs.map thV ++ [thV v] = (vs ++ [v]).map thV by simp] at HO4; obtain ⟨A8, c8, hv8⟩ := Kd.R_slice HO4.out; rw [List.length_map] at hv8; subst hv8; go_roundw
    case rel => exact ⟨i + 1, vs ++ [v], A8, c8, by omega, by go_num, rfl, ⟨HO4.out⟩, ⟨HB4.out⟩, ⟨by rw [List.length_append, HN.out]; rfl⟩, ⟨fun x hx => (List.mem_append.1 hx).elim (HVS.out x) (fun h => by rw [List.mem_singleton] at h; rw [h]; exact HGD.out)⟩, ⟨HST.out⟩⟩
    case measure => simp [intOf]; omega
  ·obtain rfl : i = ps.length := by omega
   rw [<- HRS.out, List.drop_length, goV] at HEQ; have hl64 := HL.out; have hxl := HXL.out; obtain ⟨ad, e1, x0, x1, x2⟩ := at_T68 (Kd.C_below HX.out HBW.out) ((q.length : Nat) : Int) zq4 zq4; have hro : rd_T68 x ((q.length : Nat) : Int) = o := by
    unfold rd_T68; rw [Int.toNat_natCast, List.getD_eq_getElem?_getD, HXO.out]; rfl
   rw [Int.toNat_natCast, hro] at x0 x1 x2; cases e1; have hw1 : wrap64 ((x.length : Int) - 1) = ((q.length : Nat) : Int) := by unfold wrap64; omega
   have pK : (0 <= ((q.length : Nat) : Int)) = True := eq_true zq4; have qK : (((q.length : Nat) : Int) < (x.length : Int)) = True := eq_true zq4; have BW := Hd (BR.out.below HB.out); clear hxl hl64 hro BR; have hB1 := below_alloc (Below.refl wr.heap.size wr) (.cells #[.int .i64 o.f0, .int .i64 o.f1, .string o.f2] 68); have hB2 := below_alloc hB1 (.cells #[.int .i64 0, .int .i64 0, .string ⟨#[]⟩] tV)
   match vs, HN, HVS, HEQ, HO with
   | [], HN, HVS, HEQ, HO =>
    clear hB1 hB2
    go_wp2_with (go_at_call 159; refine hold3 ?_)
    refine ⟨?_⟩; refine (H0.out HN.out.symm _ (HW.out.trans ((below_alloc (below_alloc HBW.out _) _).mono HW.out.size))).mono ?_; rintro e w3 ⟨he, hb3⟩; obtain rfl : e = .returned (.tuple #[.agg #[.int .i64 (fin []).1, .int .i64 (fin []).2.1, .string (fin []).2.2.1], .int .i64 (fin []).2.2.2]) := he; obtain ⟨pr0, pr1, pr2, qr0, qr1, qr2, prl⟩ := (BW.out.below (below_alloc (below_alloc (Below.refl _ wr) _) _)).below hb3; have HB3 := Hd ((below_alloc (below_alloc HBW.out _) _).trans (hb3.mono (below_alloc (below_alloc HBW.out _) _).size)); clear hb3 BW; go_wp2; rw [HEQ.out]; exact bodyPost_ret (v := .tuple #[.agg #[.int .i64 (fin []).1, .int .i64 (fin []).2.1, .string (fin []).2.2.1], .int .i64 (fin []).2.2.2]) (by simp [results, Tryz.results131, go_sem, *]) rfl ⟨rfl, below_set3 HB3.out _ (Nat.le_refl _) _ _ _⟩
   | [a], HN, HVS, HEQ, HO =>
    obtain ⟨bd, e2, y0, y1, y2⟩ := at_T65 (Kd.R_reads' HO.out).2.2 0 zq34 zq30; cases e2; rw [show bd.add ((0 : Int).toNat * 3) = bd by cases bd; rfl, show rd_T65 ([a].map thV) 0 = thV a from rfl] at y0 y1 y2; replace y0 := pw_cell_below hB2 y0; replace y1 := pw_cell_below hB2 y1; replace y2 := pw_cell_below hB2 y2; clear hB1 hB2
    go_wp2_with (go_at_call 159; refine hold3 ?_)
    refine ⟨?_⟩; refine (H1.out a (HVS.out a zq30) HN.out.symm _ (HW.out.trans ((below_alloc (below_alloc HBW.out _) _).mono HW.out.size))).mono ?_; rintro e w3 ⟨he, hb3⟩; obtain rfl : e = .returned (.tuple #[.agg #[.int .i64 (fin [a]).1, .int .i64 (fin [a]).2.1, .string (fin [a]).2.2.1], .int .i64 (fin [a]).2.2.2]) := he; obtain ⟨pr0, pr1, pr2, qr0, qr1, qr2, prl⟩ := (BW.out.below (below_alloc (below_alloc (Below.refl _ wr) _) _)).below hb3; have HB3 := Hd ((below_alloc (below_alloc HBW.out _) _).trans (hb3.mono (below_alloc (below_alloc HBW.out _) _).size)); clear hb3 BW; go_wp2; rw [HEQ.out]; exact bodyPost_ret (v := .tuple #[.agg #[.int .i64 (fin [a]).1, .int .i64 (fin [a]).2.1, .string (fin [a]).2.2.1], .int .i64 (fin [a]).2.2.2]) (by simp [results, Tryz.results131, go_sem, *]) rfl ⟨rfl, below_set3 HB3.out _ (Nat.le_refl _) _ _ _⟩
   | [a, b], HN, HVS, HEQ, HO =>
    obtain ⟨bd, e2, y0, y1, y2⟩ := at_T65 (Kd.R_reads' HO.out).2.2 0 zq34 zq30; obtain ⟨bd', e2', z0, z1, z2⟩ := at_T65 (Kd.R_reads' HO.out).2.2 1 zq34 zq30; cases e2; cases e2'; rw [show bd.add ((0 : Int).toNat * 3) = bd by cases bd; rfl, show rd_T65 ([a, b].map thV) 0 = thV a from rfl] at y0 y1 y2; rw [show (1 : Int).toNat * 3 = 3 from rfl, show rd_T65 ([a, b].map thV) 1 = thV b from rfl] at z0 z1 z2; clear hB2; have k0 := (bx1 wr (.int .i64 o.f0) (.int .i64 o.f1) (.string o.f2) 68).c0; obtain ⟨wB, hwB⟩ : ∃ x, x = wr.alloc (.cells #[.int .i64 o.f0, .int .i64 o.f1, .string o.f2] 68) := ⟨_, rfl⟩
    rw [<- hwB] at hB1 k0; have KX := Hd (fun (W : World) (h : Below wB.heap.size wB W) (k : Addr) (v : Value) (hk : wr.cell? k = some v) => pw_cell_below (hB1.trans (h.mono hB1.size)) hk); have K0 := Hd (fun (W : World) (h : Below wB.heap.size wB W) => pw_cell_below h k0); have YZ := Hd (And.intro (And.intro y0 (And.intro y1 y2)) (And.intro z0 (And.intro z1 z2))); have BWB := Hd (BW.out.below hB1); have HBB := Hd (HBW.out.trans (hB1.mono HBW.out.size)); have TC := Hd (fun w => show Calls Tryz.prog 158 #[.int .i64 o.f0, .agg #[.int .i64 (thV a).f0, .int .i64 (thV a).f1, .string (thV a).f2], .agg #[.int .i64 (thV b).f0, .int .i64 (thV b).f1, .string (thV b).f2]] w fun e w' => e = .returned (.tuple #[.agg #[.int .i64 (fin [a, b]).1, .int .i64 (fin [a, b]).2.1, .string (fin [a, b]).2.2.1], .int .i64 (fin [a, b]).2.2.2]) /\ Below w.heap.size w w' from H2.out a b (HVS.out a zq30) (HVS.out b zq30) HN.out.symm w); clear y0 y1 y2 z0 z1 z2 k0 hB1 BW; go_wp2; rw [<- hwB]; clear hwB; have hbw := below_drew1 (Below.refl wB.heap.size wB); refine start_ (n := 13) (S := fun w' => Below wB.heap.size wB w' /\ w'.cell? ⟨wr.heap.size, 0, none⟩ = some (.int .i64 o.f0) /\ w'.cell? bd = some (.int .i64 (thV a).f0) /\ w'.cell? ⟨bd.block, bd.off + 1, none⟩ = some (.int .i64 (thV a).f1) /\ w'.cell? ⟨bd.block, bd.off + 2, none⟩ = some (.string (thV a).f2) /\ w'.cell? ⟨bd.block, bd.off + 3, none⟩ = some (.int .i64 (thV b).f0) /\ w'.cell? ⟨bd.block, bd.off + 3 + 1, none⟩ = some (.int .i64 (thV b).f1) /\ w'.cell? ⟨bd.block, bd.off + 3 + 2, none⟩ = some (.string (thV b).f2)) (ds := [11]) #[false, false, false, false, false, false, false, false, false, false, false, false, false] zq17 rfl rfl ⟨hbw, K0.out _ hbw, KX.out _ hbw _ _ YZ.out.1.1, KX.out _ hbw _ _ YZ.out.1.2.1, KX.out _ hbw _ _ YZ.out.1.2.2, KX.out _ hbw _ _ YZ.out.2.1, KX.out _ hbw _ _ YZ.out.2.2.1, KX.out _ hbw _ _ YZ.out.2.2.2⟩ (fun hHeld => ?_); refine with_tabW hof.tab12 hof.bits12 (fun HT_ HW_ => ?_); refine pZ 0 48 ?_; refine pZ 2 50 ?_; refine pZ 3 51 ?_; refine pZ 5 53 ?_; refine pZ 6 54 ?_; refine tZ8 1 49 ?_; refine tZ8 4 52 ?_; refine tZ8 7 55 ?_; refine oZ 8 56 (fun K hK => ?_); refine goes_ Tryz.func158 zq17 rfl #[.int .i64 o.f0, .agg #[.int .i64 (thV a).f0, .int .i64 (thV a).f1, .string (thV a).f2], .agg #[.int .i64 (thV b).f0, .int .i64 (thV b).f1, .string (thV b).f2]] (by rfl) rfl rfl zq67 ?_
    with_reducible refine (TC.out _).mono ?_
    rintro e w5 ⟨rfl, hb5⟩; refine ⟨_, rfl, ?_⟩; have hb6 := hHeld.1.trans (hb5.mono hHeld.1.size); obtain ⟨pr0, pr1, pr2, qr0, qr1, qr2, prl⟩ := BWB.out.below hb6; refine hK.out _ _ ⟨hb6, K0.out _ hb6, KX.out _ hb6 _ _ YZ.out.1.1, KX.out _ hb6 _ _ YZ.out.1.2.1, KX.out _ hb6 _ _ YZ.out.1.2.2, KX.out _ hb6 _ _ YZ.out.2.1, KX.out _ hb6 _ _ YZ.out.2.2.1, KX.out _ hb6 _ _ YZ.out.2.2.2⟩ (fun hHeld => ?_); clear hK K; refine nZ 56 ?_; refine pZ 9 57 ?_; refine pZ 10 58 ?_; refine last_ (i := 11) (N := none) #[true, true, true, true, true, true, true, true, true, true, true, true, false] rfl rfl (one_of HT_.out zq17) zq34 (fun K hK => ?_); refine skip_ (w1 := ?_) (by rfl) rfl ?_ ?_; rotate_left
    ·go_simp
     rfl
    refine hK.out _ _ ?_; clear hK K; refine pZ 12 5 ?_; refine done_ (done_of HT_.out zq17) ?_; go_wp2; rw [HEQ.out]; exact bodyPost_ret (v := .tuple #[.agg #[.int .i64 (fin [a, b]).1, .int .i64 (fin [a, b]).2.1, .string (fin [a, b]).2.2.1], .int .i64 (fin [a, b]).2.2.2]) (by simp [results, Tryz.results131, go_sem, *]) rfl ⟨rfl, below_set3 (HBB.out.trans (hb6.mono HBB.out.size)) _ (Nat.le_refl _) _ _ _⟩
   | a :: b :: c :: _, HN, HVS, HEQ, HO => exact absurd HN.out zq33
theorem r64_0 : R64 0 := by unfold R64; omega
theorem hof_T (A1 : Option Addr) (c1 : Nat) (row : List Vl) (W0 : World) (hrow : Kd.C kV W0 A1 row.length row) (hc1 : row.length <= c1) (hr : ROk row) : ∀ t : T, t.ok -> (∀ o ∈ t.fl, R64 o.f1) -> t.fl.length <= 64 -> OfIs A1 c1 row W0 t.fl (outV (t.ev row))
 | .l o, h, ho, hl => of_walk A1 c1 row W0 hrow hc1 [] o [] [] (fun _ => outV (evL row o)) hl zq30 rfl (hparts_calls (.l o) h hl) zq30 zq30 zq30 (fun _ w hb => by
   show oneCalls o.f0 o.f1 o.f2 A1 c1 row 0 0 ⟨#[]⟩ w (outV (evL row o))
   rw [<- oneV_L row hr o h.1 h.2]; exact hone_calls A1 c1 row o.f0 o.f1 0 0 o.f2 ⟨#[]⟩ w (Kd.C_below hrow hb) (fun h3 => (EvP.okW_get h.1 h3).1) r64_0)
 | .u o t, h, ho, hl => by
  have ho' : ∀ o ∈ t.fl, R64 o.f1 := fun o' h' => ho o' (by simp [T.fl, h'])
  have hl' : t.fl.length <= 64 := by simp [T.fl] at hl; omega
  have := of_walk A1 c1 row W0 hrow hc1 t.fl o [t.fl] [t.ev row] (fun vs => match vs with
   | [x] => outV (evU o.f0 x)
   | _ => outV (.error 0)) hl zq30 rfl (hparts_calls (.u o t) h hl) (fun i p r hp hq => by
    cases i with
    | zero => injection hp with hp; injection hq with hq; subst hp hq; exact ⟨hof_T A1 c1 row W0 hrow hc1 hr t h.2.2 ho' hl', good_ev row hr t h.2.2 ho'⟩
    | succ n => simp at hp) zq30 (fun a ha _ w hb => by
   show oneCalls o.f0 o.f1 o.f2 A1 c1 row (thV a).f0 (thV a).f1 (thV a).f2 w (outV (evU o.f0 a))
   rw [<- oneV_U row o h.2.1 a]; refine hone_calls A1 c1 row o.f0 o.f1 _ _ o.f2 _ w (Kd.C_below hrow hb) (fun h3 => by rcases EvP.takes_1 h.2.1 with h' | h' | h' <;> omega) ?_; cases a with
   | num n => exact ha
   | txt s => exact r64_0) zq30
  have e : outV ((T.u o t).ev row) = goV (fun vs => match vs with
   | [x] => outV (evU o.f0 x)
   | _ => outV (.error 0)) [t.ev row] [] := by
   rw [T.ev_u]; cases t.ev row <;> rfl
  rw [e]; exact this
 | .b o t s, h, ho, hl => by
  have ho1 : ∀ o ∈ t.fl, R64 o.f1 := fun o' h' => ho o' (by simp [T.fl, h'])
  have ho2 : ∀ o ∈ s.fl, R64 o.f1 := fun o' h' => ho o' (by simp [T.fl, h'])
  have hfl : (T.b o t s).fl = (t.fl ++ s.fl) ++ [o] := by simp [T.fl]
  have hl' : t.fl.length <= 64 /\ s.fl.length <= 64 := by simp [T.fl] at hl; omega
  have := of_walk A1 c1 row W0 hrow hc1 (t.fl ++ s.fl) o [t.fl, s.fl] [t.ev row, s.ev row] (fun vs => match vs with
   | [x, y] => outV (evB o.f0 x y)
   | _ => outV (.error 0)) (by rw [<- hfl]; exact hl) zq30 rfl (by rw [<- hfl]; exact hparts_calls (.b o t s) h hl) (fun i p r hp hq => by
    match i with
    | 0 => injection hp with hp; injection hq with hq; subst hp hq; exact ⟨hof_T A1 c1 row W0 hrow hc1 hr t h.2.2.1 ho1 hl'.1, good_ev row hr t h.2.2.1 ho1⟩
    | 1 => injection hp with hp; injection hq with hq; subst hp hq; exact ⟨hof_T A1 c1 row W0 hrow hc1 hr s h.2.2.2 ho2 hl'.2, good_ev row hr s h.2.2.2 ho2⟩
    | n + 2 => simp at hp) (fun a b ha hb _ w => by
    obtain ⟨k, hk⟩ := (EvP.two_R o.f0 a b ha hb (EvP.takes_2 h.2.1)).get; exact r18_two.calls k o.f0 _ _ _ _ _ _ _ _ _ _ w hk) zq30 zq30
  have e : outV ((T.b o t s).ev row) = goV (fun vs => match vs with
   | [x, y] => outV (evB o.f0 x y)
   | _ => outV (.error 0)) [t.ev row, s.ev row] [] := by
   rw [T.ev_b]; cases t.ev row with
   | error e => rfl
   | ok x => cases s.ev row <;> rfl
  rw [hfl, e]; exact this
end Go.Proofs.YtmkgecapkeojaaaGreat.Eg
end
section
namespace Go.Proofs.YtmkgecapkeojaaaGreat.Eg
open Go.Proofs.YtmkgecapkeojaaaGreat Go.Proofs.YtmkgecapkeojaaaGreat.PDa
open Go.RowKit Go.Proofs.YtmkgecapkeojaaaGreatW.PrintWords Go.Proofs.YtmkgecapkeojaaaGreatW.PrintLast Go.Proofs.YtmkgecapkeojaaaGreatW.PrintMore
open Go.Proofs.YtmkgecapkeojaaaGreat.Rw
open Go.Proofs.YtmkgecapkeojaaaGreat.EvP (evalV XOk)
theorem heval_calls (x : List Op18) (row : List Vl) (h : XOk x row) (A0 A1 : Option Addr) (c0 c1 : Nat) (w : World) (hx : Kd.C kOp w A0 x.length x) (hc0 : x.length <= c0) (hrow : Kd.C kV w A1 row.length row) (hc1 : row.length <= c1) :
  Calls Tryz.prog 89 #[.slice A0 x.length c0, .slice A1 row.length c1] w fun e w' => OutV (evalV x row) e /\ Below w.heap.size w w' := by
 obtain ⟨wA, hwA⟩ : ∃ z, z = w.alloc (.cells #[.int .i64 0, .int .i64 0, .string ⟨#[]⟩] tV) := ⟨_, rfl⟩
 have HBA := Hd (show Below w.heap.size w wA by rw [hwA]; exact below_alloc (Below.refl _ _) _); have BA := Hd (show Bx w.heap.size wA (.int .i64 0) (.int .i64 0) (.string ⟨#[]⟩) by rw [hwA]; exact bx1 _ _ _ _ _); obtain ⟨kf, hkf⟩ := (EvP.form_R x).get; obtain ⟨km, hkm⟩ := (EvP.mayR row).get; obtain ⟨f, hf⟩ : ∃ z, EvP.formV x = z := ⟨_, rfl⟩
 obtain ⟨m, hm⟩ : ∃ z, rowMay row = z := ⟨_, rfl⟩
 rw [hf] at hkf; rw [hm] at hkm; have FC := Hd (r17_Form.calls kf A0 c0 x f wA (Kd.C_below hx HBA.out) hc0 hkf); have MC := Hd (fun (W : World) (hb : Below w.heap.size w W) => r06_May.calls km A1 c1 row m W (Kd.C_below hrow hb) hc1 hkm); have OC := Hd (fun (hf0 : f = 0) (hm0 : m = true) (W : World) (hb : Below w.heap.size w W) => show Calls Tryz.prog 131 #[.slice A0 x.length c0, .slice A1 row.length c1] W fun e w' => OutV (evalV x row) e /\ Below W.heap.size W w' by
  obtain ⟨t, ht, hxt, hl⟩ := EvP.formV_0 (hf.trans hf0); rw [hxt] at hl hf hx hc0 h ⊢; rw [EvP.evalV_T t ht row (hf.trans hf0) (hm.trans hm0)]; exact hof_T A1 c1 row w hrow hc1 ⟨hm.trans hm0, h.row⟩ t ht h.x hl A0 c0 W (Kd.C_below hx hb) hc0 hb)
 have HF := Hd hf; have HM := Hd hm; clear hf hm hkf hkm hx hrow hc0 hc1; go_enter Tryz.func89, Tryz.ntmps89
 go_wp2_with (go_at_call 51; refine hold3 ?_)
 refine ⟨?_⟩; rw [<- hwA]; clear hwA; refine FC.out.mono ?_; rintro e w1 ⟨rfl, hb1⟩; have HB1 := Hd (HBA.out.trans (hb1.mono HBA.out.size)); have B1 := Hd (BA.out.below hb1); clear hb1 FC BA HBA
 by_cases h0 : f = 0
 ·subst h0
  go_wp2_with (go_at_call 69; refine hold3 ?_)
  refine ⟨?_⟩; refine (MC.out _ HB1.out).mono ?_; rintro e w2 ⟨rfl, hb2⟩; have HB2 := Hd (HB1.out.trans (hb2.mono HB1.out.size)); have B2 := Hd (B1.out.below hb2); clear hb2 B1 MC; cases m with
  | false =>
   obtain ⟨pr0, pr1, pr2, qr0, qr1, qr2, prl⟩ := B2.out; have HV := Hd (show evalV x row = (0, 0, ⟨#[]⟩, 2) by unfold evalV; rw [if_neg (by rw [HF.out]; decide), if_pos HM.out]); go_wp2; rw [HV.out]; exact bodyPost_ret (v := .tuple #[.agg #[.int .i64 0, .int .i64 0, .string ⟨#[]⟩], .int .i64 2]) (by simp [results, Tryz.results89, go_sem, *]) rfl ⟨rfl, below_set3 HB2.out _ (Nat.le_refl _) _ _ _⟩
  | true =>
   have OC2 := Hd (OC.out zq58 zq58 w2 HB2.out); clear OC
   go_wp2_with (go_at_call 131; refine hold3 ?_)
   refine ⟨?_⟩; refine OC2.out.mono ?_; rintro e w3 ⟨he, hb3⟩; obtain rfl : e = .returned (.tuple #[.agg #[.int .i64 (evalV x row).1, .int .i64 (evalV x row).2.1, .string (evalV x row).2.2.1], .int .i64 (evalV x row).2.2.2]) := he; obtain ⟨pr0, pr1, pr2, qr0, qr1, qr2, prl⟩ := B2.out.below hb3; have HB3 := Hd (HB2.out.trans (hb3.mono HB2.out.size)); clear hb3 OC2 B2; go_wp2; exact bodyPost_ret (v := .tuple #[.agg #[.int .i64 (evalV x row).1, .int .i64 (evalV x row).2.1, .string (evalV x row).2.2.1], .int .i64 (evalV x row).2.2.2]) (by simp [results, Tryz.results89, go_sem, *]) rfl ⟨rfl, below_set3 HB3.out _ (Nat.le_refl _) _ _ _⟩
 ·have hne : (f != 0) = true := bne_iff_ne.mpr h0
  have HV := Hd (show evalV x row = (0, 0, ⟨#[]⟩, f) by unfold evalV; rw [HF.out, if_pos h0]); obtain ⟨pr0, pr1, pr2, qr0, qr1, qr2, prl⟩ := B1.out; clear h0; go_wp2; rw [HV.out]; exact bodyPost_ret (v := .tuple #[.agg #[.int .i64 0, .int .i64 0, .string ⟨#[]⟩], .int .i64 f]) (by simp [results, Tryz.results89, go_sem, *]) rfl ⟨rfl, below_set3 HB1.out _ (Nat.le_refl _) _ _ _⟩
theorem hholds_calls (x : List Op18) (row : List Vl) (h : XOk x row) (A0 A1 : Option Addr) (c0 c1 : Nat) (w : World) (hx : Kd.C kOp w A0 x.length x) (hc0 : x.length <= c0) (hrow : Kd.C kV w A1 row.length row) (hc1 : row.length <= c1) :
  Calls Tryz.prog 52 #[.slice A0 x.length c0, .slice A1 row.length c1] w fun e w' => e = .returned (.tuple #[.bool (EvP.holdsV x row).1, .int .i64 (EvP.holdsV x row).2]) /\ Below w.heap.size w w' := by
 have EC := Hd (heval_calls x row h A0 A1 c0 c1 w hx hc0 hrow hc1); obtain ⟨⟨k, n, s, er⟩, hv⟩ : ∃ z, evalV x row = z := ⟨_, rfl⟩
 rw [hv] at EC; unfold EvP.holdsV; rw [hv]; clear hv hx hrow hc0 hc1 h; go_enter Tryz.func52, Tryz.ntmps52
 go_wp2_with (go_at_call 89; refine hold3 ?_)
 refine ⟨?_⟩; refine EC.out.mono ?_; rintro e w1 ⟨he, hb1⟩; obtain rfl : e = .returned (.tuple #[.agg #[.int .i64 k, .int .i64 n, .string s], .int .i64 er]) := he; have HB1 := Hd (below_alloc hb1 (.cells #[.int .i64 k, .int .i64 n, .string s] tV)); clear hb1 EC
 by_cases h0 : er = 0
 ·subst h0
  by_cases h1 : k = 1
  ·subst h1
   go_wp2; go_ret2; exact ⟨by simp, HB1.out⟩
  ·have hne : (k != 1) = true := bne_iff_ne.mpr h1
   have HN := Hd h1; clear h1; go_wp2; go_ret2; exact ⟨(by first | rfl | (rw [if_neg HN.out]; rfl)), HB1.out⟩
 ·have hne : (er != 0) = true := bne_iff_ne.mpr h0
  have HN := Hd h0; clear h0; go_wp2; go_ret2; exact ⟨(by first | rfl | (rw [if_neg HN.out]; rfl)), HB1.out⟩
end Go.Proofs.YtmkgecapkeojaaaGreat.Eg
end
section
namespace Go.Proofs.YtmkgecapkeojaaaGreat.Eg
open Go.Proofs.YtmkgecapkeojaaaGreat Go.Proofs.YtmkgecapkeojaaaGreat.PDa
open Go.RowKit Go.Proofs.YtmkgecapkeojaaaGreatW.PrintWords Go.Proofs.YtmkgecapkeojaaaGreatW.PrintLast Go.Proofs.YtmkgecapkeojaaaGreatW.PrintMore
open Go.Proofs.YtmkgecapkeojaaaGreat.Stp Go.Proofs.YtmkgecapkeojaaaGreat.Rw
def Ans (r : List EdP × Int) (w : World) (e : Ending) (w' : World) : Prop := ∃ A c, e = .returned (.tuple #[.slice A r.1.length c, .int .i64 r.2]) /\ Kd.C kE w' A r.1.length r.1 /\ r.1.length <= c /\ Below w.heap.size w w'
end Go.Proofs.YtmkgecapkeojaaaGreat.Eg
end
section
namespace Go.Proofs.YtmkgecapkeojaaaGreat.Eg
open Go.Proofs.YtmkgecapkeojaaaGreat Go.Proofs.YtmkgecapkeojaaaGreat.PDa
open Go.Proofs.YtmkgecapkeojaaaGreat.EvP (evalV formV holdsV)
open Go.RowKit Go.Proofs.YtmkgecapkeojaaaGreatW.PrintWords Go.Proofs.YtmkgecapkeojaaaGreat.Stp Go.Proofs.YtmkgecapkeojaaaGreat.Rw Go.Proofs.YtmkgecapkeojaaaGreat.Cmp Go.Proofs.YtmkgecapkeojaaaGreat.Canon
theorem joinV_ok {a b c : List Vl} (h : joinV a b = (c, 0)) : rowMay a = true /\ rowMay b = true /\ a.length + b.length <= 8 /\ c = a ++ b := by
 unfold joinV at h
 by_cases h1 : (rowMay a && rowMay b) = true
 ·rw [if_pos h1] at h
  rw [Bool.and_eq_true] at h1
  by_cases h2 : 8 < a.length + b.length
  ·rw [if_pos h2] at h; cases h
  ·rw [if_neg h2] at h
   exact ⟨h1.1, h1.2, by omega, (congrArg Prod.fst h).symm⟩
 ·rw [if_neg h1] at h; cases h
end Go.Proofs.YtmkgecapkeojaaaGreat.Eg
end
section
namespace Go.Proofs.YtmkgecapkeojaaaGreat.Eg
open Go.Proofs.YtmkgecapkeojaaaGreat Go.Proofs.YtmkgecapkeojaaaGreat.PDa Go.Proofs.YtmkgecapkeojaaaGreat.EvP
open Go.RowKit Go.Proofs.YtmkgecapkeojaaaGreatW.PrintWords Go.Proofs.YtmkgecapkeojaaaGreatW.PrintLast Go.Proofs.YtmkgecapkeojaaaGreatW.PrintMore
open Go.Proofs.YtmkgecapkeojaaaGreat.Stp Go.Proofs.YtmkgecapkeojaaaGreat.Rw
theorem nilT : (⟨#[]⟩ : ByteArray).toList = [] := (toList_nil_iff_emptyBytes _).2 rfl
theorem rowMay1 (a : Int) : rowMay [⟨1, a, ⟨#[]⟩⟩] = true := by simp [rowMay, thOf, nilT]
theorem thO_num (a : Int) : thO (Th.num a) = some (Th.num a) := by
 simp [thO, thVal3, thOf]
def v7 : Rw.Vl := ⟨1, 7, ⟨#[]⟩⟩
def a2 : EdP := ⟨[v1], 9, -1⟩
def b1 : EdP := ⟨[v7], 5, 1⟩
def b2 : EdP := ⟨[v7], 12, -1⟩
def jx2 : List Op8 := [⟨3, 0, ⟨#[]⟩⟩, ⟨3, 1, ⟨#[]⟩⟩, ⟨13, 0, ⟨#[]⟩⟩]
def p1 : EdP := ⟨[v1, v7], 5, 1⟩
def p2 : EdP := ⟨[v1, v7], 9, -1⟩
def jt2 : T := .b ⟨13, 0, ⟨#[]⟩⟩ (.l ⟨3, 0, ⟨#[]⟩⟩) (.l ⟨3, 1, ⟨#[]⟩⟩)
theorem jt2_ok : jt2.ok := by
 refine ⟨?_, by decide, ⟨?_, by decide⟩, ⟨?_, by decide⟩⟩ <;> simp [okW, noT, nilT, takes]
theorem jx2_form : formV jx2 = 0 := by
 have h := parse_fl jt2 jt2_ok [] []; rw [List.append_nil] at h; have e : jt2.fl = jx2 := rfl; unfold formV; rw [if_neg zq34, <- e, h]; rfl
theorem runs2 (r : List Rw.Vl) (a b c d : Int) : runsP [⟨r, a, b⟩, ⟨r, c, d⟩] = [(r, [⟨a, b⟩, ⟨c, d⟩])] := by simp [runsP, runAt, eqR_refl, jmpE]
theorem may2 (r : List Rw.Vl) (a b c d : Int) (hr : rowMay r = true) (hm : mayJ [⟨a, b⟩, ⟨c, d⟩] = true) : mayE [⟨r, a, b⟩, ⟨r, c, d⟩] = true := by
 unfold mayE eachP; rw [runs2]; simp only [eachR, lastB, hr, hm]
 rfl
def partnersV (hh : List Rw.Vl -> Bool × Int) (ef : Int) (x : Gq) (l : List EdP) : List Jp × Int :=
 if (rowMay x.1 && mayJ x.2 && mayE l) = true then (if tableE l = true then (if ef ≠ 0 then ([], ef) else partsR hh x [] (runsP l)) else ([], 20)) else ([], 2)
theorem Partners_calls (hh : List Rw.Vl -> Bool × Int) (fe : Int) (x : Gq) (Ar Af A0 A1 : Option Addr) (cr cf c0 c1 : Nat) (l : List EdP) (ex : List Op8) (w : World) (ha : Kd.C kV w Ar x.1.length x.1 /\ x.1.length <= cr) (hf : Kd.C kJ w Af x.2.length x.2 /\ x.2.length <= cf)
  (hr0 : Kd.C kE w A0 l.length l) (hrow : ∀ e ∈ l, e.f0.length <= 4398046511104) (hr1 : Kd.C kO w A1 ex.length ex) (hc1 : ex.length <= c1) (hhk : ∀ y ∈ runsP l, (joinV x.1 y.1).2 = 0 -> ∃ k, eval_Holds.f k ex (joinV x.1 y.1).1 = some (hh (joinV x.1 y.1).1)) (hfk : ∃ k, expr_Form.f k ex = some fe) :
  Calls Tryz.prog 41 #[.slice Ar x.1.length cr, .slice Af x.2.length cf, .slice A0 l.length c0, .slice A1 ex.length c1] w fun e w' => ∃ v, e = .returned (.tuple #[v, .int .i64 (partnersV hh fe x l).2]) /\ Kd.R kJ tJ w' w.heap.size (fun _ => True) v (partnersV hh fe x l).1 /\ Below w.heap.size w w' := by
 have M1 := Hd (fun (w1 : World) (h : Below w.heap.size w w1) => row_May.calls Ar cr x.1 (rowMay x.1) w1 (Kd.C_below ha.1 h) ha.2 rfl); have M2 := Hd (fun (w1 : World) (h : Below w.heap.size w w1) => may_any Af cf x.2 w1 (Kd.C_below hf.1 h) hf.2); have M3 := Hd (fun (w1 : World) (h : Below w.heap.size w w1) => May_calls A0 c0 l w1 (Kd.C_below hr0 h) hrow); have M4 := Hd (fun (w1 : World) (h : Below w.heap.size w w1) => Table_calls A0 c0 l w1 (Kd.C_below hr0 h) hrow); have FC := Hd (fun (w1 : World) (h : Below w.heap.size w w1) => (show Calls Tryz.prog 47 #[.slice A1 ex.length c1] w1 fun e w' => e = .returned (.int .i64 fe) /\ Below w1.heap.size w1 w' from hfk.elim fun k hk => expr_Form.calls k A1 c1 ex fe w1 (Kd.C_below hr1 h) hc1 hk)); have PC := Hd (fun (hm : mayE l = true) (w1 : World) (h : Below w.heap.size w w1) => partners_calls hh x Ar Af A0 A1 cr cf c0 c1 l ex w1 ⟨Kd.C_below ha.1 h, ha.2⟩ ⟨Kd.C_below hf.1 h, hf.2⟩ (Kd.C_below hr0 h) hrow hm (Kd.C_below hr1 h) hc1 hhk); obtain ⟨o, ho⟩ : ∃ o, partsR hh x [] (runsP l) = o := ⟨_, rfl⟩
 have HPV := Hd (show partnersV hh fe x l = if (rowMay x.1 && mayJ x.2 && mayE l) = true then (if tableE l = true then (if fe ≠ 0 then ([], fe) else o) else ([], 20)) else ([], 2) by rw [<- ho]; rfl); obtain ⟨P, hP⟩ : ∃ z, partnersV hh fe x l = z := ⟨_, rfl⟩
 rw [hP] at HPV ⊢; rw [ho] at PC; obtain ⟨b1, hb1⟩ : ∃ z, rowMay x.1 = z := ⟨_, rfl⟩
 obtain ⟨b2, hb2⟩ : ∃ z, mayJ x.2 = z := ⟨_, rfl⟩
 obtain ⟨b3, hb3⟩ : ∃ z, mayE l = z := ⟨_, rfl⟩
 obtain ⟨b4, hb4⟩ : ∃ z, tableE l = z := ⟨_, rfl⟩
 rw [hb1] at M1 HPV; rw [hb2] at M2 HPV; rw [hb3] at M3 HPV PC; rw [hb4] at M4 HPV; obtain ⟨nr, hnr⟩ : ∃ n, x.1.length = n := ⟨_, rfl⟩
 obtain ⟨nf, hnf⟩ : ∃ n, x.2.length = n := ⟨_, rfl⟩
 rw [hnr] at M1 PC ⊢; rw [hnf] at M2 PC ⊢; clear ha hf hr0 hrow hr1 hc1 hhk hfk ho hnr hnf hP hb1 hb2 hb3 hb4; go_enter Tryz.func41, Tryz.ntmps41
 go_wp2_with fail
 refine (M1.out _ (Below.refl _ _)).mono ?_; rintro e w1 ⟨rfl, hb⟩; have HBX := Hd hb; clear hb M1; cases b1 with
 | false =>
  have HV := Hd (show P = ([], 2) by rw [HPV.out]; simp); go_wp2; go_ret2; rw [HV.out]; exact ⟨_, rfl, Kd.R_nil _ _ _ _ _, HBX.out⟩
 | true =>
 have HB1 := Hd HBX.out; clear HBX
 go_wp2_with fail
 refine (M2.out _ HB1.out).mono ?_; rintro e w2 ⟨rfl, hb⟩; have HBX := Hd (HB1.out.trans (hb.mono HB1.out.size)); clear hb M2; cases b2 with
 | false =>
  have HV := Hd (show P = ([], 2) by rw [HPV.out]; simp); go_wp2; go_ret2; rw [HV.out]; exact ⟨_, rfl, Kd.R_nil _ _ _ _ _, HBX.out⟩
 | true =>
 have HB2 := Hd HBX.out; clear HBX
 go_wp2_with fail
 refine (M3.out _ HB2.out).mono ?_; rintro e w3 ⟨rfl, hb⟩; have HBX := Hd (HB2.out.trans (hb.mono HB2.out.size)); clear hb M3; cases b3 with
 | false =>
  have HV := Hd (show P = ([], 2) by rw [HPV.out]; simp); go_wp2; go_ret2; rw [HV.out]; exact ⟨_, rfl, Kd.R_nil _ _ _ _ _, HBX.out⟩
 | true =>
 have HB3 := Hd HBX.out; clear HBX
 go_wp2_with fail
 refine (M4.out _ HB3.out).mono ?_; rintro e w4 ⟨rfl, hb⟩; have HBX := Hd (HB3.out.trans (hb.mono HB3.out.size)); clear hb M4; cases b4 with
 | false =>
  have HV := Hd (show P = ([], 20) by rw [HPV.out]; simp); go_wp2; go_ret2; rw [HV.out]; exact ⟨_, rfl, Kd.R_nil _ _ _ _ _, HBX.out⟩
 | true =>
 have HB4 := Hd HBX.out; clear HBX
 go_wp2_with fail
 refine (FC.out _ HB4.out).mono ?_; rintro e w5 ⟨rfl, hb⟩; have HBX := Hd (HB4.out.trans (hb.mono HB4.out.size)); clear hb FC
 by_cases hfe : fe = 0
 rotate_left
 ·have hne : (fe != 0) = true := bne_iff_ne.mpr hfe
  have HV := Hd (show P = ([], fe) by rw [HPV.out]; simp [hfe]); clear hfe; go_wp2; go_ret2; rw [HV.out]; exact ⟨_, rfl, Kd.R_nil _ _ _ _ _, HBX.out⟩
 ·subst hfe
  have HV := Hd (show P = o by rw [HPV.out]; simp); have HB5 := Hd HBX.out; clear HBX HPV
  go_wp2_with fail
  refine (PC.out (by trivial) _ HB5.out).mono ?_; rintro e w6 ⟨v, rfl, hR, hb⟩; have HR := Hd (Kd.R_lower hR HB5.out.size); have HB6 := Hd (HB5.out.trans (hb.mono HB5.out.size)); clear hR hb; go_wp2; go_ret2; rw [HV.out]; exact ⟨v, rfl, HR.out, HB6.out⟩
def aloneV (hh : List Rw.Vl -> Bool × Int) (ef : Int) (l r : List EdP) : List EdP × Int :=
 if (mayE l && mayE r) = true then (if (tableE l && tableE r) = true then (if ef ≠ 0 then ([], ef) else if (alR hh (runsP r) [] (runsP l)).2 ≠ 0 then ([], (alR hh (runsP r) [] (runsP l)).2) else normV (alR hh (runsP r) [] (runsP l)).1) else ([], 20)) else ([], 2)
theorem alone_is {hh : List Rw.Vl -> Bool × Int} {ef : Int} {l r : List EdP} {o : List EdP × Int} (h : AloneIs hh ef l r o) : o = aloneV hh ef l r := by
 unfold aloneV
 rcases h with ⟨h1, h2⟩ | ⟨h1, h2, h3⟩ | ⟨h1, h2, h3, h4⟩ | ⟨⟨h1, h2, h3⟩, ⟨h4, h5⟩ | ⟨h4, h5⟩⟩
 ·rw [if_neg (by rw [h1]; decide), h2]
 ·rw [if_pos h1, if_neg (by rw [h2]; decide), h3]
 ·rw [if_pos h1, if_pos h2, if_pos h3, h4]
 ·rw [if_pos h1, if_pos h2, if_neg (by simpa using h3), if_pos h4, h5]
 ·rw [if_pos h1, if_pos h2, if_neg (by simpa using h3), if_neg (by simpa using h4)]; exact norm_is h5
theorem holds_ok {x : List Op8} {l r : List EdP} (hl : PDd.okEs l = true) (hr : PDd.okEs r = true) (hx : PDd.okXs x = true) (a b : List Rw.Vl × List Jp) (ha : ∃ e ∈ l, a.1 = e.f0) (hb : ∃ e ∈ r, b.1 = e.f0) (hj : (joinV a.1 b.1).2 = 0) : ∃ k, eval_Holds.f k x (joinV a.1 b.1).1 = some (EvP.holdsV x (joinV a.1 b.1).1) := by
 obtain ⟨⟨c, ec⟩, hc⟩ : ∃ z, joinV a.1 b.1 = z := ⟨_, rfl⟩
 rw [hc] at hj ⊢; simp only at hj; subst hj; obtain ⟨_, _, _, rfl⟩ := joinV_ok hc; obtain ⟨e, he, e1⟩ := ha; obtain ⟨f, hf, f1⟩ := hb; refine (EvP.holds_E x _ ⟨(PDd.okX hl hx e he).x, fun v hv => ?_⟩).get
 rcases List.mem_append.1 hv with hv | hv
 ·exact (PDd.okX hl hx e he).row v (e1 ▸ hv)
 ·exact (PDd.okX hr hx f hf).row v (f1 ▸ hv)
theorem alone_any (A0 A1 A2 : Option Addr) (c0 c1 c2 : Nat) (l r : List EdP) (x : List Op8) (w : World) (hr0 : Kd.C kE w A0 l.length l) (hr1 : Kd.C kE w A1 r.length r) (hr2 : Kd.C kO w A2 x.length x) (hc2 : x.length <= c2) (hl : PDd.okEs l = true) (hr : PDd.okEs r = true) (hx : PDd.okXs x = true) :
  Calls Tryz.prog 44 #[.slice A0 l.length c0, .slice A1 r.length c1, .slice A2 x.length c2] w (Ans (aloneV (EvP.holdsV x) (EvP.formV x) l r) w) := by
 refine (Alone_calls (EvP.holdsV x) (EvP.formV x) A0 A1 A2 c0 c1 c2 l r x w hr0 (PDd.okEs_row hl) hr1 (PDd.okEs_row hr) hr2 hc2 (fun a b ha hb hj => holds_ok hl hr hx a b (runs_mem l a ha).1 (runs_mem r b hb).1 hj) (EvP.form_E x).get).mono ?_; rintro e w' ⟨v, o, ho, rfl, hR, hb⟩; obtain rfl := alone_is ho; obtain ⟨A, c, rfl⟩ := Kd.R_slice hR; exact ⟨A, c, rfl, (Kd.R_reads' hR).2.2, (Kd.R_reads' hR).2.1, hb⟩
def r1 : EdP := ⟨[v1], 4, 1⟩
def r2 : EdP := ⟨[v1], 6, -1⟩
theorem may11 : rowMay [v1, v1] = true := by simp [rowMay, thOf, nilT, v1]
theorem jx2_w : holdsV jx2 [v1, v1] = (true, 0) := by
 have e : jt2.fl = jx2 := rfl; have h : evalV jx2 [v1, v1] = (1, 1, ⟨#[]⟩, 0) := by
  rw [<- e, evalV_T jt2 jt2_ok _ (by rw [e]; exact jx2_form) may11]; simp [T.ev, jt2, evL, evB, v1, compareS, getTh, rd_T65, outV, thVal3, Except.map]; simp only [thO_num]
  rfl
 unfold holdsV; rw [h]
 rfl
theorem join11 : joinV [v1] [v1] = ([v1, v1], 0) := by
 unfold joinV; rw [show rowMay [v1] = true from rowMay1 1]
 rfl
theorem table2 (r : List Rw.Vl) (a b c d : Int) (hr : rowMay r = true) (hm : tabJ [⟨a, b⟩, ⟨c, d⟩] = true) : tableE [⟨r, a, b⟩, ⟨r, c, d⟩] = true := by
 unfold tableE eachP; rw [runs2]; simp only [eachR, lastB, hr, hm]
 rfl
theorem part_of (f h : List Jp) (hb : bothV (· * ·) f [⟨4, 1⟩, ⟨6, -1⟩] = (h, 0)) (hn : h ≠ []) : partsR (holdsV jx2) ([v1], f) [] [([v1], [⟨4, 1⟩, ⟨6, -1⟩])] = ([⟨4, 1⟩, ⟨6, -1⟩], 0) := by
 have ep : partnerV (holdsV jx2) ([v1], f) ([v1], [⟨4, 1⟩, ⟨6, -1⟩]) = (true, 0) := by
  unfold partnerV; simp only [hb, join11]; rw [if_neg zq34, if_neg hn, if_neg zq34]; exact jx2_w
 have ea : askV (holdsV jx2) ([v1], f) [] ([v1], [⟨4, 1⟩, ⟨6, -1⟩]) = ([⟨4, 1⟩, ⟨6, -1⟩], 0) := by
  unfold askV; rw [ep, if_pos ⟨rfl, rfl⟩]
  rfl
 simp only [partsR, ea]; rw [if_neg zq34]
theorem factA1 : aloneV (holdsV jx2) (formV jx2) [e1, a2] [r1, r2] = ([e1, ⟨[v1], 4, -1⟩, ⟨[v1], 6, 1⟩, a2], 0) := by
 have m1 : mayE [e1, a2] = true := may2 [v1] 2 1 9 (-1) (rowMay1 1) rfl; have m2 : mayE [r1, r2] = true := may2 [v1] 4 1 6 (-1) (rowMay1 1) rfl; have t1 : tableE [e1, a2] = true := table2 [v1] 2 1 9 (-1) (rowMay1 1) rfl; have t2 : tableE [r1, r2] = true := table2 [v1] 4 1 6 (-1) (rowMay1 1) rfl; have hp : partsR (holdsV jx2) ([v1], [⟨2, 1⟩, ⟨9, -1⟩]) [] [([v1], [⟨4, 1⟩, ⟨6, -1⟩])] = ([⟨4, 1⟩, ⟨6, -1⟩], 0) := part_of _ [⟨4, 1⟩, ⟨6, -1⟩] rfl zq34; have hw : bothV whereO [⟨2, 1⟩, ⟨9, -1⟩] [⟨4, 1⟩, ⟨6, -1⟩] = ([⟨2, 1⟩, ⟨4, -1⟩, ⟨6, 1⟩, ⟨9, -1⟩], 0) := by rfl
 have hb : buildP [v1] [⟨2, 1⟩, ⟨4, -1⟩, ⟨6, 1⟩, ⟨9, -1⟩] = [e1, ⟨[v1], 4, -1⟩, ⟨[v1], 6, 1⟩, a2] := by
  unfold buildP; rw [show rowMay [v1] = true from rowMay1 1]
  rfl
 have m3 : mayE [e1, ⟨[v1], 4, -1⟩, ⟨[v1], 6, 1⟩, a2] = true := by
  unfold mayE eachP; rw [show runsP [e1, ⟨[v1], 4, -1⟩, ⟨[v1], 6, 1⟩, a2] = [([v1], [⟨2, 1⟩, ⟨4, -1⟩, ⟨6, 1⟩, ⟨9, -1⟩])] by simp [runsP, runAt, eqR_refl, jmpE, e1, a2]]; simp only [eachR, lastB, show rowMay [v1] = true from rowMay1 1]
  rfl
 have ha : alR (holdsV jx2) [([v1], [⟨4, 1⟩, ⟨6, -1⟩])] [] [([v1], [⟨2, 1⟩, ⟨9, -1⟩])] = ([e1, ⟨[v1], 4, -1⟩, ⟨[v1], 6, 1⟩, a2], 0) := by
  simp only [alR, hp, hw, hb, List.nil_append]; rw [if_neg zq34, if_neg zq34]
 unfold aloneV; rw [m1, m2, t1, t2, if_pos (by rfl), if_pos (by rfl), jx2_form, if_neg zq34, show runsP [e1, a2] = [([v1], [⟨2, 1⟩, ⟨9, -1⟩])] from runs2 _ _ _ _ _, show runsP [r1, r2] = [([v1], [⟨4, 1⟩, ⟨6, -1⟩])] from runs2 _ _ _ _ _, ha, if_neg zq30]; exact ((mayE_iff _).1 m3).norm
theorem factA2 : partsR (holdsV jx2) ([v1], [⟨0, 1⟩]) [] (runsP [r1, r2]) = ([⟨4, 1⟩, ⟨6, -1⟩], 0) := by
 rw [show runsP [r1, r2] = [([v1], [⟨4, 1⟩, ⟨6, -1⟩])] from runs2 _ _ _ _ _]; exact part_of [⟨0, 1⟩] [⟨4, 1⟩, ⟨6, -1⟩] rfl zq34
theorem R_lit0 {α : Type} {d : Kd α} {W : World} {B : Nat} {t : TypeId} {cs : Array Value} {ps : List α} {inner : List Value} (hb : W.heap[B]? = some (.cells cs t (0, 0))) (hi : cs.toList = inner) (hn : ps.length <= 100)
  (hr : Reps (d.M W 0 (fun k => (fun _ => True) k /\ some k ≠ (Value.slice (some ⟨B, 0, none⟩) ps.length ps.length).ownBlock)) d.sz ps inner) : d.R t W 0 (fun _ => True) (.slice (some ⟨B, 0, none⟩) ps.length ps.length) ps :=
 ⟨fun _ _ => trivial, inner, ⟨hr.1, .inr ⟨B, ps.length, cs, rfl, Nat.zero_le _, hb, Nat.le_refl _, by unfold maxLen; omega, by rw [<- Array.length_toList, hi, hr.1], by rw [hi, List.take_of_length_le (by rw [hr.1]; exact Nat.le_refl _)]⟩⟩, hr⟩
theorem partnersA2 : partnersV (holdsV jx2) 0 ([v1], [⟨0, 1⟩]) [r1, r2] = partsR (holdsV jx2) ([v1], [⟨0, 1⟩]) [] (runsP [r1, r2]) := by
 have h1 : (rowMay [v1] && mayJ [(⟨0, 1⟩ : Jp)] && mayE [r1, r2]) = true := by
  rw [show rowMay [v1] = true from rowMay1 1, show mayE [r1, r2] = true from may2 [v1] 4 1 6 (-1) (rowMay1 1) rfl]; rfl
 unfold partnersV; rw [if_pos h1, if_pos (show tableE [r1, r2] = true from table2 [v1] 4 1 6 (-1) (rowMay1 1) rfl), if_neg zq30]
theorem liveA_calls (w : World) : Calls Tryz.prog 40 #[] w fun e w' => e = .returned (.bool true) /\ Below w.heap.size w w' := by
 go_enter Tryz.func40, Tryz.ntmps40
 go_wp2_with (go_at_call 44; refine hold_intro ?_)
 refine ⟨?_⟩; obtain ⟨W1, hW1⟩ : ∃ W1, (((w.alloc (.cells #[.int .i64 1, .int .i64 1, .string ⟨#[]⟩] 65 (0, 0))).alloc (.cells #[.slice (some ⟨w.heap.size, 0, none⟩) 1 1, .int .i64 2, .int .i64 1, .slice (some ⟨w.heap.size, 0, none⟩) 1 1, .int .i64 9, .int .i64 (-1)] 41 (0, 0))).alloc (.cells #[.slice (some ⟨w.heap.size, 0, none⟩) 1 1, .int .i64 4, .int .i64 1, .slice (some ⟨w.heap.size, 0, none⟩) 1 1, .int .i64 6, .int .i64 (-1)] 41 (0, 0))).alloc (.cells #[.int .i64 3, .int .i64 0, .string ⟨#[]⟩, .int .i64 3, .int .i64 1, .string ⟨#[]⟩, .int .i64 13, .int .i64 0, .string ⟨#[]⟩] 68 (0, 0)) = W1 := ⟨_, rfl⟩
 have hsW1 : W1.heap.size = w.heap.size + 4 := by rw [<- hW1]; simp
 have hbW1 : Below w.heap.size w W1 := by rw [<- hW1]; exact below_alloc (below_alloc (below_alloc (below_alloc (Below.refl _ w) _) _) _) _
 have k0 : W1.heap[w.heap.size]? = some (.cells #[.int .i64 1, .int .i64 1, .string ⟨#[]⟩] 65 (0, 0)) := by
  have h1 := blk_new (w) (.cells #[.int .i64 1, .int .i64 1, .string ⟨#[]⟩] 65 (0, 0)); rw [<- hW1]; exact blk_alloc (blk_alloc (blk_alloc (h1) _) _) _
 have k2 : W1.heap[w.heap.size + 1]? = some (.cells #[.slice (some ⟨w.heap.size, 0, none⟩) 1 1, .int .i64 2, .int .i64 1, .slice (some ⟨w.heap.size, 0, none⟩) 1 1, .int .i64 9, .int .i64 (-1)] 41 (0, 0)) := by
  have h1 := blk_new (w.alloc (.cells #[.int .i64 1, .int .i64 1, .string ⟨#[]⟩] 65 (0, 0))) (.cells #[.slice (some ⟨w.heap.size, 0, none⟩) 1 1, .int .i64 2, .int .i64 1, .slice (some ⟨w.heap.size, 0, none⟩) 1 1, .int .i64 9, .int .i64 (-1)] 41 (0, 0)); rw [World.size_alloc] at h1; rw [<- hW1]; exact blk_alloc (blk_alloc (h1) _) _
 have k5 : W1.heap[w.heap.size + 1 + 1]? = some (.cells #[.slice (some ⟨w.heap.size, 0, none⟩) 1 1, .int .i64 4, .int .i64 1, .slice (some ⟨w.heap.size, 0, none⟩) 1 1, .int .i64 6, .int .i64 (-1)] 41 (0, 0)) := by
  have h1 := blk_new ((w.alloc (.cells #[.int .i64 1, .int .i64 1, .string ⟨#[]⟩] 65 (0, 0))).alloc (.cells #[.slice (some ⟨w.heap.size, 0, none⟩) 1 1, .int .i64 2, .int .i64 1, .slice (some ⟨w.heap.size, 0, none⟩) 1 1, .int .i64 9, .int .i64 (-1)] 41 (0, 0))) (.cells #[.slice (some ⟨w.heap.size, 0, none⟩) 1 1, .int .i64 4, .int .i64 1, .slice (some ⟨w.heap.size, 0, none⟩) 1 1, .int .i64 6, .int .i64 (-1)] 41 (0, 0)); rw [World.size_alloc, World.size_alloc] at h1; rw [<- hW1]; exact blk_alloc (h1) _
 have k6 : W1.heap[w.heap.size + 1 + 1 + 1]? = some (.cells #[.int .i64 3, .int .i64 0, .string ⟨#[]⟩, .int .i64 3, .int .i64 1, .string ⟨#[]⟩, .int .i64 13, .int .i64 0, .string ⟨#[]⟩] 68 (0, 0)) := by
  have h1 := blk_new (((w.alloc (.cells #[.int .i64 1, .int .i64 1, .string ⟨#[]⟩] 65 (0, 0))).alloc (.cells #[.slice (some ⟨w.heap.size, 0, none⟩) 1 1, .int .i64 2, .int .i64 1, .slice (some ⟨w.heap.size, 0, none⟩) 1 1, .int .i64 9, .int .i64 (-1)] 41 (0, 0))).alloc (.cells #[.slice (some ⟨w.heap.size, 0, none⟩) 1 1, .int .i64 4, .int .i64 1, .slice (some ⟨w.heap.size, 0, none⟩) 1 1, .int .i64 6, .int .i64 (-1)] 41 (0, 0))) (.cells #[.int .i64 3, .int .i64 0, .string ⟨#[]⟩, .int .i64 3, .int .i64 1, .string ⟨#[]⟩, .int .i64 13, .int .i64 0, .string ⟨#[]⟩] 68 (0, 0)); rw [World.size_alloc, World.size_alloc, World.size_alloc] at h1; rw [<- hW1]; exact h1
 rw [hW1]; have r1' : Kd.C kV W1 (some ⟨w.heap.size, 0, none⟩) 1 [v1] := C_lit (d := kV) (ps := [] ++ [v1]) (inner := [] ++ [.int .i64 v1.f0, .int .i64 v1.f1, .string v1.f2]) rfl k0 rfl rfl zq34 (Reps.snoc (ps := []) (p := v1) (Reps.none (kV.K W1) kV.sz) (k65_mk W1 v1) rfl); have hC : Kd.C kE W1 (some ⟨w.heap.size + 1, 0, none⟩) 2 [e1, a2] :=
  C_lit (d := kE) (ps := [] ++ [e1] ++ [a2]) (inner := [] ++ [.slice (some ⟨w.heap.size, 0, none⟩) 1 1, .int .i64 2, .int .i64 1] ++ [.slice (some ⟨w.heap.size, 0, none⟩) 1 1, .int .i64 9, .int .i64 (-1)]) rfl k2 rfl rfl zq34
   (((Reps.none (kE.K W1) kE.sz).snoc (p := e1) (k41_mk W1 e1 (Nat.le_refl 1) r1') rfl).snoc (p := a2) (k41_mk W1 a2 (Nat.le_refl 1) r1') rfl)
 have hD : Kd.C kE W1 (some ⟨w.heap.size + 1 + 1, 0, none⟩) 2 [r1, r2] :=
  C_lit (d := kE) (ps := [] ++ [r1] ++ [r2]) (inner := [] ++ [.slice (some ⟨w.heap.size, 0, none⟩) 1 1, .int .i64 4, .int .i64 1] ++ [.slice (some ⟨w.heap.size, 0, none⟩) 1 1, .int .i64 6, .int .i64 (-1)]) rfl k5 rfl rfl zq34
   (((Reps.none (kE.K W1) kE.sz).snoc (p := r1) (k41_mk W1 r1 (Nat.le_refl 1) r1') rfl).snoc (p := r2) (k41_mk W1 r2 (Nat.le_refl 1) r1') rfl)
 have hX : Kd.C kO W1 (some ⟨w.heap.size + 1 + 1 + 1, 0, none⟩) 3 jx2 :=
  C_lit (d := kO) (ps := [] ++ [(⟨3, 0, ⟨#[]⟩⟩ : Op8)] ++ [⟨3, 1, ⟨#[]⟩⟩] ++ [⟨13, 0, ⟨#[]⟩⟩]) (inner := [] ++ [.int .i64 3, .int .i64 0, .string ⟨#[]⟩] ++ [.int .i64 3, .int .i64 1, .string ⟨#[]⟩] ++ [.int .i64 13, .int .i64 0, .string ⟨#[]⟩]) rfl k6 rfl rfl zq34
   ((((Reps.none (kO.K W1) kO.sz).snoc (p := ⟨3, 0, ⟨#[]⟩⟩) (k68_mk W1 _) rfl).snoc (p := ⟨3, 1, ⟨#[]⟩⟩) (k68_mk W1 _) rfl).snoc (p := ⟨13, 0, ⟨#[]⟩⟩) (k68_mk W1 _) rfl)
 have HV1 := Hd k0; have HD := Hd hD; have HXX := Hd hX; have HB1 := Hd hbW1; have HLT := Hd (show w.heap.size < W1.heap.size by omega); have FC := Hd (alone_any (some ⟨w.heap.size + 1, 0, none⟩) (some ⟨w.heap.size + 1 + 1, 0, none⟩) (some ⟨w.heap.size + 1 + 1 + 1, 0, none⟩) 2 2 3 [e1, a2] [r1, r2] jx2 W1 hC hD hX (Nat.le_refl 3) (by rfl) (by rfl) (by rfl)); rw [factA1] at FC; clear hC hD hX r1' k0 k2 k5 k6 hW1 hsW1 hbW1; refine FC.out.mono ?_; rintro e w2 ⟨Aa, ca, rfl, hRa, hca, hb2⟩; have HRA := Hd hRa; have HB2 := Hd (HB1.out.trans (hb2.mono HB1.out.size)); have HV2 := Hd ((hb2.block w.heap.size HLT.out).trans HV1.out); have HLT2 := Hd (Nat.lt_of_lt_of_le HLT.out hb2.size); have HD2 := Hd (Kd.C_below HD.out hb2); have HX2 := Hd (Kd.C_below HXX.out hb2); clear hRa hb2 hca HB1 HV1 HD HXX FC
 go_wp2_with (go_at_call 41; refine hold_intro ?_)
 refine ⟨?_⟩; obtain ⟨W3, hW3⟩ : ∃ W3, w2.alloc (.cells #[.int .i64 0, .int .i64 1] 85 (0, 0)) = W3 := ⟨_, rfl⟩
 have hsW3 : W3.heap.size = w2.heap.size + 1 := by rw [<- hW3]; simp
 have hbW3 : Below w2.heap.size w2 W3 := by rw [<- hW3]; exact below_alloc (Below.refl _ w2) _
 have k0 : W3.heap[w2.heap.size]? = some (.cells #[.int .i64 0, .int .i64 1] 85 (0, 0)) := by
  have h1 := blk_new (w2) (.cells #[.int .i64 0, .int .i64 1] 85 (0, 0)); rw [<- hW3]; exact h1
 rw [hW3]; have hRV : Kd.R kV tV W3 0 (fun _ => True) (.slice (some ⟨w.heap.size, 0, none⟩) [v1].length 1) [v1] := R_lit0 (d := kV) (inner := [] ++ [.int .i64 v1.f0, .int .i64 v1.f1, .string v1.f2]) ((hbW3.block w.heap.size HLT2.out).trans HV2.out) rfl zq34 ((Reps.none _ kV.sz).snoc (p := v1) (k65_mkM _ _ _ v1) rfl); have hRJ : Kd.R kJ tJ W3 0 (fun _ => True) (.slice (some ⟨w2.heap.size, 0, none⟩) [(⟨0, 1⟩ : Jp)].length 1) [⟨0, 1⟩] := R_lit0 (d := kJ) (inner := [] ++ [.int .i64 0, .int .i64 1]) k0 rfl zq34 ((Reps.none _ kJ.sz).snoc (p := (⟨0, 1⟩ : Jp)) (k85_mkM _ _ _ (⟨0, 1⟩ : Jp)) rfl); have HB3 := Hd hbW3; have PC := Hd (Partners_calls (holdsV jx2) 0 ([v1], [⟨0, 1⟩]) (some ⟨w.heap.size, 0, none⟩) (some ⟨w2.heap.size, 0, none⟩) (some ⟨w.heap.size + 1 + 1, 0, none⟩) (some ⟨w.heap.size + 1 + 1 + 1, 0, none⟩) 1 1 2 3 [r1, r2] jx2 W3 ⟨(Kd.R_reads' hRV).2.2, (Kd.R_reads' hRV).2.1⟩ ⟨(Kd.R_reads' hRJ).2.2, (Kd.R_reads' hRJ).2.1⟩ (Kd.C_below HD2.out hbW3) zq34 (Kd.C_below HX2.out hbW3) (Nat.le_refl 3) (fun y hy hj => holds_ok (l := [e1]) (r := [r1, r2]) (by rfl) (by rfl) (by rfl) ([v1], [⟨0, 1⟩]) y ⟨e1, by simp, rfl⟩ (runs_mem _ y hy).1 hj) (by have := (EvP.form_E jx2).get; rw [jx2_form] at this; exact this)); rw [partnersA2] at PC; rw [factA2] at PC; clear hRV hRJ k0 hW3 hsW3 hbW3 HD2 HX2 HV2; refine PC.out.mono ?_; rintro e w4 ⟨vp, rfl, hRp, hb4⟩; obtain ⟨Ab, cb, rfl⟩ := Kd.R_slice hRp; have HB4 := Hd ((HB2.out.trans (HB3.out.mono HB2.out.size)).trans (hb4.mono (Nat.le_trans HB2.out.size HB3.out.size))); have hra := Kd.C_below (Kd.C_below HRA.out HB3.out) hb4; obtain ⟨ad, Ay, cy, ea, y0, y1, y2, y3, y4⟩ := at_T41 hra (1 : Int) zq34 zq34; obtain ⟨ad2, Az, cz, eb, z0, z1, z2, z3, z4⟩ := at_T41 hra (2 : Int) zq34 zq34; cases ea; cases eb; have Y1 : w4.cell? ⟨ad.block, ad.off + 3 + 1, none⟩ = some (.int .i64 4) := by simpa [Addr.add, rd_T41] using y1
 have Y2 : w4.cell? ⟨ad.block, ad.off + 3 + 2, none⟩ = some (.int .i64 (-1)) := by simpa [Addr.add, rd_T41] using y2
 have Z1 : w4.cell? ⟨ad.block, ad.off + 6 + 1, none⟩ = some (.int .i64 6) := by simpa [Addr.add, rd_T41] using z1
 clear y0 y1 y2 y3 y4 z0 z1 z2 z3 z4 hra HRA HB2 HB3 hb4 hRp PC; go_wp2; go_ret; exact ⟨rfl, HB4.out⟩
end Go.Proofs.YtmkgecapkeojaaaGreat.Eg
end
section
namespace Go.Proofs.YtmkgecapkeojaaaGreat.Eg
open Go.Proofs.YtmkgecapkeojaaaGreat Go.Proofs.YtmkgecapkeojaaaGreat.PDa
open Go.RowKit Go.Proofs.YtmkgecapkeojaaaGreatW.PrintWords Go.Proofs.YtmkgecapkeojaaaGreatW.PrintLast Go.Proofs.YtmkgecapkeojaaaGreatW.PrintMore
open Go.Proofs.YtmkgecapkeojaaaGreat.Stp Go.Proofs.YtmkgecapkeojaaaGreat.Rw
def opW (k : Int) : Int -> Int -> Int := if k = 1 then (· * ·) else if k = 2 then whereO else (· + ·)
theorem opW_0 (k : Int) (h : k = 0 \/ k = 1 \/ k = 2) : opW k 0 0 = 0 := by
 rcases h with rfl | rfl | rfl <;> rfl
theorem opW_bd (k a b : Int) (h : k = 0 \/ k = 1 \/ k = 2) (h1 : -1073741824 <= a) (h2 : a <= 1073741824) (h3 : -1073741824 <= b) (h4 : b <= 1073741824) : -2305843009213693952 <= opW k a b /\ opW k a b <= 2305843009213693952 := by
 rcases h with rfl | rfl | rfl
 ·show -2305843009213693952 <= a + b /\ a + b <= 2305843009213693952; omega
 ·have := mul_bd a b h1 h2 h3 h4
  show -2305843009213693952 <= a * b /\ a * b <= 2305843009213693952; omega
 ·show -2305843009213693952 <= whereO a b /\ whereO a b <= 2305843009213693952
  unfold whereO; split <;> omega
theorem htwo_calls (what : Int) (hw : what = 0 \/ what = 1 \/ what = 2) (A0 A1 : Option Addr) (c0 c1 : Nat) (f g : List Jp) (w : World) (hr0 : Kd.C kJp w A0 f.length f) (hc0 : f.length <= c0) (hr1 : Kd.C kJp w A1 g.length g) (hc1 : g.length <= c1) :
  Calls Tryz.prog 67 #[.slice A0 f.length c0, .slice A1 g.length c1, .int .i64 what] w fun e w' => ∃ v, e = .returned (.tuple #[v, .int .i64 (bothV (opW what) f g).2]) /\ Kd.R kJp tJ w' w.heap.size (fun _ => True) v (bothV (opW what) f g).1 /\ Below w.heap.size w w' := by
 have huI := Tryz.underlying53; obtain ⟨kf, hkf⟩ := (may09 f).get; obtain ⟨kg, hkg⟩ := (may09 g).get; have MF := Hd (r09_May.calls kf A0 c0 f _ w hr0 hc0 hkf); have MG := Hd (fun (W : World) (h : Below w.heap.size w W) => r09_May.calls kg A1 c1 g _ W (Kd.C_below hr1 h) hc1 hkg); have PC := Hd (fun (hf : mayJ f = true) (hg : mayJ g = true) (W : World) (h : Below w.heap.size w W) => show Calls Tryz.prog 110 #[.slice A0 f.length c0, .slice A1 g.length c1] W fun e w' => ∃ A c, e = .returned (.slice A (placesI (f ++ g)).length c) /\ (placesI (f ++ g)).length <= c /\ Kd.C kI w' A (placesI (f ++ g)).length (placesI (f ++ g)) /\ Below W.heap.size W w' by
  have pf := mayJ_parts hf; have pg := mayJ_parts hg; have e := places_all (f ++ g) (fun j hj => by
   rcases List.mem_append.1 hj with hj | hj
   ·exact (pf.2.1 j hj).2.1
   ·exact (pg.2.1 j hj).2.1) []
  rw [List.foldl_append] at e; have h2 := hplaces_calls A0 A1 c0 c1 f g W (Kd.C_below hr0 h) (Kd.C_below hr1 h) zq4 zq4; rw [show foldW g (foldW f []) = placesI (f ++ g) from e] at h2; exact h2)
 have VF := Hd (fun (hf : mayJ f = true) (t : Int) (W : World) (h : Below w.heap.size w W) => (value09 f t (fun x hx => okFair ((mayJ_parts hf).2.1 x hx).2.2.2) (by have := (mayJ_parts hf).1; omega)).get.elim fun k hk => r09_Value.calls k A0 c0 f t (valI f t) W (Kd.C_below hr0 h) hc0 hk); have VG := Hd (fun (hg : mayJ g = true) (t : Int) (W : World) (h : Below w.heap.size w W) => (value09 g t (fun x hx => okFair ((mayJ_parts hg).2.1 x hx).2.2.2) (by have := (mayJ_parts hg).1; omega)).get.elim fun k hk => r09_Value.calls k A1 c1 g t (valI g t) W (Kd.C_below hr1 h) hc1 hk); clear hkf hkg hr0 hr1 hc0 hc1; obtain ⟨op, hop⟩ : ∃ z, opW what = z := ⟨_, rfl⟩
 rw [hop]; have HOP := Hd hop; have HW := Hd hw; obtain ⟨mf, hmf⟩ : ∃ z, mayJ f = z := ⟨_, rfl⟩
 obtain ⟨mg, hmg⟩ : ∃ z, mayJ g = z := ⟨_, rfl⟩
 rw [hmf] at MF; rw [hmg] at MG; have HMF := Hd hmf; have HMG := Hd hmg; clear hop hw hmf hmg; go_enter Tryz.func67, Tryz.ntmps67
 go_wp2_with (go_at_call 79; refine hold3 ?_)
 refine ⟨?_⟩; refine MF.out.mono ?_; rintro e w1 ⟨rfl, hd1⟩; have HB1 := Hd (show Below w.heap.size w w1 from hd1.below); clear hd1 MF; cases mf with
 | false =>
  have HV := Hd (show bothV op f g = ([], 2) by unfold bothV; rw [HMF.out]; rfl); go_wp2; go_ret2; rw [HV.out]; exact ⟨_, rfl, Kd.R_nil _ _ _ _ _, HB1.out⟩
 | true =>
  go_wp2_with (go_at_call 79; refine hold3 ?_)
  refine ⟨?_⟩; refine (MG.out w1 HB1.out).mono ?_; rintro e w2 ⟨rfl, hd2⟩; have HB2 := Hd (HB1.out.trans (hd2.below.mono HB1.out.size)); clear hd2 MG HB1; cases mg with
  | false =>
   have HV := Hd (show bothV op f g = ([], 2) by unfold bothV; rw [HMF.out, HMG.out]; rfl); go_wp2; go_ret2; rw [HV.out]; exact ⟨_, rfl, Kd.R_nil _ _ _ _ _, HB2.out⟩
  | true =>
   obtain ⟨ps, hps⟩ : ∃ z, placesI (f ++ g) = z := ⟨_, rfl⟩
   have P3 := Hd (PC.out HMF.out HMG.out w2 HB2.out); have HV := Hd (show bothV op f g = toldJ (toldI ps (ps.map fun p => op (valI f p) (valI g p)) 0) by
    unfold bothV; rw [HMF.out, HMG.out, <- hps, <- HOP.out, two_is (opW what) (opW_0 what HW.out) f g HMF.out HMG.out]; rfl)
   have HPL := Hd (show ps.length <= 2048 by
    have h := (foldW_inc (f ++ g) [] List.Pairwise.nil).2; have e : foldW (f ++ g) [] = placesI (f ++ g) := places_all (f ++ g) (fun j hj => by
     rcases List.mem_append.1 hj with hj | hj
     ·exact ((mayJ_parts HMF.out).2.1 j hj).2.1
     ·exact ((mayJ_parts HMG.out).2.1 j hj).2.1) []
    rw [e, hps, List.length_append] at h; have h1 := (mayJ_parts HMF.out).1; have h2 := (mayJ_parts HMG.out).1; simp only [List.length_nil] at h; omega)
   have HBD := Hd (show ∀ t, (-1073741824 <= valI f t /\ valI f t <= 1073741824) /\ (-1073741824 <= valI g t /\ valI g t <= 1073741824) from fun t => by
    have h1 := valI_bound t f (fun x hx => okFair ((mayJ_parts HMF.out).2.1 x hx).2.2.2); have h2 := valI_bound t g (fun x hx => okFair ((mayJ_parts HMG.out).2.1 x hx).2.2.2); have h3 := (mayJ_parts HMF.out).1; have h4 := (mayJ_parts HMG.out).1; omega)
   rw [hps] at P3; clear PC hps
   go_wp2_with (go_at_call 110; refine hold3 ?_)
   refine ⟨?_⟩; refine P3.out.mono ?_; rintro e w3 ⟨Ap, cp, rfl, hle, hCp, hb3⟩; have HP := Hd (And.intro trivial (And.intro hle hCp)); have HB3 := Hd (HB2.out.trans (hb3.mono HB2.out.size)); clear hle hCp hb3 P3
   go_wp2_with (((with_reducible refine gate_dst (N := 25) rfl ?_); refine Kd.R_lit kI _ tI ?hg (N := 25) ?hd (xs := ([] : List Int)) (inner := []) (ok := fun _ => True) (okp := fun _ => True) ?hr ?hp (fun _ hk => hk) trivial (Below.refl _ _) (Nat.le_refl _) zq30 ?_; (case hd => rfl); (case hg => rfl); (case hr => first | (go_simp; done) | (go_simp; rfl)); (case hp => exact (Reps.none _ _)); intro v9 w4 ho4 hb4 hg_ hnew_; have HO4 := Hd ho4; have HB4 := Hd hb4; clear hg_ hnew_ hb4 ho4))
   go_loopw [9, 10] (fun v9 v10 wr => ∃ (i : Nat) (A9 : Option Addr) (c9 : Nat), i <= ps.length /\ v10 = .int .i64 (i : Int) /\ v9 = .slice A9 i c9 /\ Aside0 (Kd.R kI tI wr w3.heap.size (fun _ => True) (.slice A9 i c9) ((ps.take i).map fun p => op (valI f p) (valI g p))) /\ Aside0 (Below w3.heap.size w3 wr)) (fun v9 v10 wr => ps.length - (intOf v10).toNat)
   case atStart =>
    obtain ⟨A9, c9, rfl⟩ := Kd.R_slice HO4.out; exact ⟨0, A9, c9, Nat.zero_le _, rfl, rfl, ⟨HO4.out⟩, ⟨HB4.out⟩⟩
   case round =>
    clear HO4 HB4; obtain ⟨i, A9, c9, hi, rfl, rfl, HO, HB⟩ := hrel; have HBW := Hd (HB3.out.trans (HB.out.mono HB3.out.size))
    by_cases c : i < ps.length
    ·obtain ⟨p, hp⟩ : ∃ p, ps[i] = p := ⟨_, rfl⟩
     obtain ⟨ad, e1, x0⟩ := Kd.at_int (Kd.C_below HP.out.2.2 HB.out) (i : Int) zq4 zq4; have hrd : rd ps (i : Int) = p := by
      unfold rd; rw [Int.toNat_natCast, List.getD_eq_getElem?_getD, List.getElem?_eq_getElem c]; exact hp
     rw [Int.toNat_natCast, hrd] at x0; cases e1; have C1 := Hd (VF.out HMF.out p wr HBW.out); have C2 := Hd (fun (W : World) (h : Below wr.heap.size wr W) => VG.out HMG.out p W (HBW.out.trans (h.mono HBW.out.size))); have HX0 := Hd x0; have HT := Hd (show (ps.take (i + 1)).map (fun p => op (valI f p) (valI g p)) = (ps.take i).map (fun p => op (valI f p) (valI g p)) ++ [op (valI f p) (valI g p)] by
      rw [List.take_add_one, List.getElem?_eq_getElem c, hp]; simp)
     have hb := HBD.out p; obtain ⟨a, ha⟩ : ∃ z, valI f p = z := ⟨_, rfl⟩
     obtain ⟨b, hb'⟩ : ∃ z, valI g p = z := ⟨_, rfl⟩
     rw [ha] at C1 HT hb; rw [hb'] at C2 HT hb; obtain ⟨⟨ha1, ha2⟩, hb1, hb2⟩ := hb; have HWA := Hd (show wrap64 (a + b) = a + b from wrapS _ (Int.le_trans zq34 (Int.add_le_add ha1 hb1)) (Int.le_trans (Int.add_le_add ha2 hb2) zq34)); have hmb := mul_bd a b ha1 ha2 hb1 hb2; have HWM := Hd (show wrap64 (a * b) = a * b from wrapS _ (Int.le_trans zq34 hmb.1) (Int.le_trans hmb.2 zq34)); clear hmb ha1 ha2 hb1 hb2; have HLI := Hd (show i <= 2048 by have := HPL.out; omega); have hwr := wrapN i (by have := HPL.out; omega); have pI : (0 <= (i : Int)) = True := eq_true zq4; have qI : ((i : Int) < (ps.length : Int)) = True := eq_true zq4; clear hrd hp ha hb'
     go_wp2_with (go_at_call 25; refine hold3 ?_)
     refine ⟨?_⟩; refine C1.out.mono ?_; rintro e w5 ⟨rfl, hd5⟩; have HB5 := Hd (show Below wr.heap.size wr w5 from hd5.below); have x5 := pw_cell_below HB5.out HX0.out; clear hd5 C1 x0
     go_wp2_with (go_at_call 25; refine hold3 ?_)
     refine ⟨?_⟩; refine (C2.out w5 HB5.out).mono ?_; rintro e w6 ⟨rfl, hd6⟩; have HB6 := Hd (HB5.out.trans (hd6.below.mono HB5.out.size)); clear hd6 C2 x5 HX0 HB5; have HO6 := Hd (Kd.R_below HO.out HB6.out); have HB36 := Hd (HB.out.trans (HB6.out.mono HB.out.size)); clear HO HB6 HB HBW HBD
     rcases HW.out with hwh | hwh | hwh
     ·subst hwh
      have hv := HWA.out; have HS := Hd (show op a b = a + b by rw [<- HOP.out]; rfl); rw [HS.out] at HT
      go_wp2_with (((with_reducible refine gate_dst (N := 60) rfl ?_); at_builtin; refine Kd.R_append kI (w0 := w3) w3.heap.size rfl (.tmp 57) (.tmp 59) 53 tI (.int .i64 0) 8 rfl huI info3 rfl zq34 zq4 (.slice A9 i c9) _ (a + b) [.int .i64 (a + b)] (fun _ => True) (fun _ => False) rfl rfl ?aP (fun _ h => h.elim) (fun _ _ => trivial) HO6.out HB36.out HB36.out.size ?aL ?_; (case aP => rfl); (case aL => have := HLI.out; rw [List.length_map, List.length_take]; omega); intro vA w7 ho hb hg_ hnew_; have HO7 := Hd ho; have HB7 := Hd hb; clear ho hb hg_ hnew_))
      rw [<- HT.out] at HO7; obtain ⟨A8, c8, hv8⟩ := Kd.R_slice HO7.out; rw [List.length_map, List.length_take, Nat.min_eq_left c] at hv8; subst hv8; go_roundw
      case rel => exact ⟨i + 1, A8, c8, c, (by first | rw [hwr] | go_num), rfl, ⟨HO7.out⟩, ⟨HB7.out⟩⟩
      case measure => first | (rw [hwr]; simp [intOf]; omega) | (simp [intOf]; omega)
     ·subst hwh
      have hv := HWM.out; have hva := HWA.out; have HS := Hd (show op a b = a * b by rw [<- HOP.out]; rfl); rw [HS.out] at HT
      go_wp2_with (((with_reducible refine gate_dst (N := 60) rfl ?_); at_builtin; refine Kd.R_append kI (w0 := w3) w3.heap.size rfl (.tmp 57) (.tmp 59) 53 tI (.int .i64 0) 8 rfl huI info3 rfl zq34 zq4 (.slice A9 i c9) _ (a * b) [.int .i64 (a * b)] (fun _ => True) (fun _ => False) rfl rfl ?aP (fun _ h => h.elim) (fun _ _ => trivial) HO6.out HB36.out HB36.out.size ?aL ?_; (case aP => rfl); (case aL => have := HLI.out; rw [List.length_map, List.length_take]; omega); intro vA w7 ho hb hg_ hnew_; have HO7 := Hd ho; have HB7 := Hd hb; clear ho hb hg_ hnew_))
      rw [<- HT.out] at HO7; obtain ⟨A8, c8, hv8⟩ := Kd.R_slice HO7.out; rw [List.length_map, List.length_take, Nat.min_eq_left c] at hv8; subst hv8; go_roundw
      case rel => exact ⟨i + 1, A8, c8, c, (by first | rw [hwr] | go_num), rfl, ⟨HO7.out⟩, ⟨HB7.out⟩⟩
      case measure => first | (rw [hwr]; simp [intOf]; omega) | (simp [intOf]; omega)
     ·subst hwh
      have hva := HWA.out
      by_cases hb0 : b = 0
      ·subst hb0
       have HS := Hd (show op a 0 = a by rw [<- HOP.out]; rfl); rw [HS.out] at HT
       go_wp2_with (((with_reducible refine gate_dst (N := 60) rfl ?_); at_builtin; refine Kd.R_append kI (w0 := w3) w3.heap.size rfl (.tmp 57) (.tmp 59) 53 tI (.int .i64 0) 8 rfl huI info3 rfl zq34 zq4 (.slice A9 i c9) _ a [.int .i64 a] (fun _ => True) (fun _ => False) rfl rfl ?aP (fun _ h => h.elim) (fun _ _ => trivial) HO6.out HB36.out HB36.out.size ?aL ?_; (case aP => rfl); (case aL => have := HLI.out; rw [List.length_map, List.length_take]; omega); intro vA w7 ho hb hg_ hnew_; have HO7 := Hd ho; have HB7 := Hd hb; clear ho hb hg_ hnew_))
       rw [<- HT.out] at HO7; obtain ⟨A8, c8, hv8⟩ := Kd.R_slice HO7.out; rw [List.length_map, List.length_take, Nat.min_eq_left c] at hv8; subst hv8; go_roundw
       case rel => exact ⟨i + 1, A8, c8, c, (by first | rw [hwr] | go_num), rfl, ⟨HO7.out⟩, ⟨HB7.out⟩⟩
       case measure => first | (rw [hwr]; simp [intOf]; omega) | (simp [intOf]; omega)
      ·have hbb : (b != 0) = true := bne_iff_ne.mpr hb0
       have HS := Hd (show op a b = 0 by rw [<- HOP.out]; show whereO a b = 0; unfold whereO; rw [if_pos hb0]); clear hb0; rw [HS.out] at HT
       go_wp2_with (((with_reducible refine gate_dst (N := 60) rfl ?_); at_builtin; refine Kd.R_append kI (w0 := w3) w3.heap.size rfl (.tmp 57) (.tmp 59) 53 tI (.int .i64 0) 8 rfl huI info3 rfl zq34 zq4 (.slice A9 i c9) _ 0 [.int .i64 0] (fun _ => True) (fun _ => False) rfl rfl ?aP (fun _ h => h.elim) (fun _ _ => trivial) HO6.out HB36.out HB36.out.size ?aL ?_; (case aP => rfl); (case aL => have := HLI.out; rw [List.length_map, List.length_take]; omega); intro vA w7 ho hb hg_ hnew_; have HO7 := Hd ho; have HB7 := Hd hb; clear ho hb hg_ hnew_))
       rw [<- HT.out] at HO7; obtain ⟨A8, c8, hv8⟩ := Kd.R_slice HO7.out; rw [List.length_map, List.length_take, Nat.min_eq_left c] at hv8; subst hv8; go_roundw
       case rel => exact ⟨i + 1, A8, c8, c, (by first | rw [hwr] | go_num), rfl, ⟨HO7.out⟩, ⟨HB7.out⟩⟩
       case measure => first | (rw [hwr]; simp [intOf]; omega) | (simp [intOf]; omega)
    ·obtain rfl : i = ps.length := by omega
     obtain ⟨vl, hvl⟩ : ∃ z, ps.map (fun p => op (valI f p) (valI g p)) = z := ⟨_, rfl⟩
     have hvn : vl.length = ps.length := by rw [<- hvl, List.length_map]
     rw [List.take_length, hvl] at HO; rw [hvl] at HV; obtain ⟨kt, hkt⟩ := (told09' ps vl (by have := HPL.out; omega) hvn (fun v hv => by
      rw [<- hvl] at hv; obtain ⟨p, _, rfl⟩ := List.mem_map.1 hv; have h := HBD.out p; rw [<- HOP.out]; exact opW_bd what _ _ HW.out h.1.1 h.1.2 h.2.1 h.2.2)).get
     have hC := (Kd.R_reads' HO.out).2.2; rw [hvn] at hC; have TC := Hd (r09_Told.calls kt Ap cp ps A9 c9 vl (toldJ (toldI ps vl 0)).1 (toldJ (toldI ps vl 0)).2 wr (Kd.C_below HP.out.2.2 HB.out) HP.out.2.1 (by rw [hvn]; exact hC) (by rw [hvn]; exact (Kd.R_reads' HO.out).2.1) (by rw [hkt])); rw [hvn, <- HV.out] at TC; clear hkt hC hvl hvn HBD
     go_wp2_with (go_at_call 111; refine hold3 ?_)
     refine ⟨?_⟩; refine TC.out.mono ?_; rintro e w5 ⟨v5, rfl, hR5, hb5⟩; have HR5 := Hd (Kd.R_lower hR5 HBW.out.size); have HB5 := Hd (HBW.out.trans (hb5.mono HBW.out.size)); clear hR5 hb5 TC; go_wp2; go_ret2; exact ⟨v5, rfl, HR5.out, HB5.out⟩
end Go.Proofs.YtmkgecapkeojaaaGreat.Eg
end
section
namespace Go.Proofs.YtmkgecapkeojaaaGreat.Eg
open Go.Proofs.YtmkgecapkeojaaaGreat Go.Proofs.YtmkgecapkeojaaaGreat.PDa
open Go.RowKit Go.Proofs.YtmkgecapkeojaaaGreatW.PrintWords Go.Proofs.YtmkgecapkeojaaaGreat.Stp Go.Proofs.YtmkgecapkeojaaaGreat.Rw Go.Proofs.YtmkgecapkeojaaaGreat.Cmp Go.Proofs.YtmkgecapkeojaaaGreat.Canon
theorem join06 (a b : List Vl) : EvP.U (fun k => r06_Join.f k a b) (joinV a b) := by
 unfold r06_Join.f joinV; refine EvP.U.bind (EvP.mayR a) ?_; cases ha : rowMay a with
 | false =>
  refine EvP.U.neg (by decide) (EvP.U.succ ?_); simp only [r06_Join.j0]; exact EvP.U.pos (by first | rfl | trivial) (EvP.U.const (by rw [if_neg (by simp)]))
 | true =>
  refine EvP.U.pos (by first | rfl | trivial) (EvP.U.bind (EvP.mayR b) ?_); have la := rowMay_len ha; cases hb : rowMay b with
  | false =>
   refine EvP.U.succ ?_; simp only [r06_Join.j0]; exact EvP.U.pos (by first | rfl | trivial) (EvP.U.const (by rw [if_neg (by simp)]))
  | true =>
   have lb := rowMay_len hb; refine EvP.U.succ ?_; simp only [r06_Join.j0]; refine EvP.U.neg (by decide) ?_; have hw : wrap64 ((a.length : Int) + (b.length : Int)) = (a.length : Int) + (b.length : Int) := by rw [show (a.length : Int) + (b.length : Int) = ((a.length + b.length : Nat) : Int) by omega]; exact EvP.w64 (by omega) (by omega)
   rw [hw]
   by_cases h8 : 8 < a.length + b.length
   ·exact EvP.U.pos (by omega) (EvP.U.const (by rw [if_pos (by rfl), if_pos h8]))
   ·refine EvP.U.neg (by omega) (EvP.U.const ?_)
    rw [if_pos (by rfl), if_neg h8]; simp; omega
end Go.Proofs.YtmkgecapkeojaaaGreat.Eg
end
section
namespace Go.Proofs.YtmkgecapkeojaaaGreat.Eg
open Go.Proofs.YtmkgecapkeojaaaGreat Go.Proofs.YtmkgecapkeojaaaGreat.PDa
open Go.RowKit Go.Proofs.YtmkgecapkeojaaaGreatW.PrintWords Go.Proofs.YtmkgecapkeojaaaGreatW.PrintLast Go.Proofs.YtmkgecapkeojaaaGreatW.PrintMore
open Go.Proofs.YtmkgecapkeojaaaGreat.Stp Go.Proofs.YtmkgecapkeojaaaGreat.Rw
theorem both_len (op : Int -> Int -> Int) : ∀ (k : Nat) (f g : List Jp) (a b was : Int), (bothL op k f g a b was).length <= k
 | 0, f, g, a, b, was => by rw [bothL]; exact Nat.le_refl _
 | k + 1, f, g, a, b, was => by
  rw [bothL]
  split
  ·exact Nat.zero_le _
  ·have := both_len op k (popL f (mAt f g)) (popL g (mAt f g)) (a + popA f (mAt f g)) (b + popA g (mAt f g)) (op (a + popA f (mAt f g)) (b + popA g (mAt f g)))
   rw [List.length_append]; have h2 : (stJ (mAt f g) (op (a + popA f (mAt f g)) (b + popA g (mAt f g))) was).length <= 1 := by unfold stJ; split <;> simp
   omega
theorem bothV_len (op : Int -> Int -> Int) (f g : List Jp) : (bothV op f g).1.length <= f.length + g.length := by
 unfold bothV toldJ
 repeat' split
 all_goals first | exact both_len _ _ _ _ _ _ _ | exact Nat.zero_le _
theorem may_groups {l : List EdP} (h : mayE l = true) : runsP l = groups l := runs_groups l (isC_rows ((mayE_iff l).1 h).can)
abbrev ROk (w wr : World) (A : Option Addr) (c : Nat) (L : List (List Vl)) (own : Option Nat) : Prop :=
 (kH w).R tR wr 0 (fun k => some k = (Value.slice A L.length c).ownBlock) (.slice A L.length c) L /\ ∀ k, (Value.slice A L.length c).ownBlock = some k -> some k ≠ own
theorem ROk.grown {w wr wq : World} {A : Option Addr} {c : Nat} {L : List (List Vl)} {v v1 : Value} (h : ROk w wr A c L v.ownBlock) (hg : wr.grownBy wq v.ownBlock) (hat : v1.ownBlock = v.ownBlock \/ ∃ b, v1.ownBlock = some b /\ wr.heap.size <= b) : ROk w wq A c L v1.ownBlock :=
 ⟨Kd.R_grown h.1 hg (fun k hk => fun e => h.2 k hk.symm e), fun k hk e => by
  rcases hat with h' | ⟨b, h', hle⟩
  ·exact h.2 k hk (e.trans h')
  ·rw [h'] at e
   injection e with e
   have := Kd.R_lt h.1 k hk; omega⟩
end Go.Proofs.YtmkgecapkeojaaaGreat.Eg
end
