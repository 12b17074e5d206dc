/- Texts of this claim, put together by a program: HTable, RefParts, LawFW, LawAP, WSized. -/
import Derived.Test.YtmkgecapkeojaaaGreatG13
import Derived.SizedLaws
import Derived.ChangeSlices
set_option linter.unusedVariables false
set_option linter.unusedSimpArgs false
set_option maxHeartbeats 8000000
set_option maxRecDepth 100000
section
namespace Go.Proofs.YtmkgecapkeojaaaGreat.Eg
open Go.Proofs.YtmkgecapkeojaaaGreat Go.Proofs.YtmkgecapkeojaaaGreat.PDa
open Go.RowKit Go.Proofs.YtmkgecapkeojaaaGreatW.PrintWords Go.Proofs.YtmkgecapkeojaaaGreatW.PrintLast Go.Proofs.YtmkgecapkeojaaaGreatW.PrintMore
open Go.Proofs.YtmkgecapkeojaaaGreat.Stp Go.Proofs.YtmkgecapkeojaaaGreat.Rw
theorem pre_at : ∀ (f : List Jp) (v : Int), f.Pairwise (fun x y => x.f0 < y.f0) -> (∀ j ∈ f, 0 <= v + valI f j.f0) -> Pre v f
 | [], _, _, _ => trivial
 | j :: js, v, hp, h => by
  have h1 := List.pairwise_cons.1 hp; have h2 := h j List.mem_cons_self; rw [valI, if_pos (Int.le_refl _), valI_low h1.1] at h2; refine ⟨by omega, pre_at js _ h1.2 fun y hy => ?_⟩; have h3 := h y (List.mem_cons_of_mem _ hy); have := h1.1 y hy; rw [valI, if_pos zq4] at h3; omega
theorem nn_at {f : List Jp} (hf : mayJ f = true) : (0 <= valI f (-1) /\ ∀ j ∈ f, 0 <= valI f j.f0) ↔ ∀ t, 0 <= valI f t := by
 have hp := (mayJ_parts hf).2.2
 constructor
 ·rintro ⟨_, h⟩ t
  have := pre_val f 0 hp (Int.le_refl _) (pre_at f 0 hp fun j hj => by have := h j hj; omega) t; omega
 ·intro h; exact ⟨h _, fun j _ => h _⟩
theorem hleast_calls (A0 : Option Addr) (c0 : Nat) (f : List Jp) (w : World) (hf : mayJ f = true) (hr0 : Kd.C kJp w A0 f.length f) (hc0 : f.length <= c0) :
  Calls Tryz.prog 122 #[.slice A0 f.length c0] w fun e w' => ∃ m : Int, e = .returned (.int .i64 m) /\ (0 <= m ↔ ∀ t, 0 <= valI f t) /\ Below w.heap.size w w' := by
 obtain ⟨km, hkm⟩ := (may09 f).get; rw [hf] at hkm; have MC := Hd (r09_May.calls km A0 c0 f true w hr0 hc0 hkm); have VC := Hd (fun (t : Int) (W : World) (h : Below w.heap.size w W) => (value09 f t (fun x hx => okFair ((mayJ_parts hf).2.1 x hx).2.2.2) (by have := (mayJ_parts hf).1; omega)).get.elim fun k hk => r09_Value.calls k A0 c0 f t (valI f t) W (Kd.C_below hr0 h) hc0 hk); have HR := Hd hr0; have HL := Hd (mayJ_parts hf).1; have HNN := Hd (nn_at hf); clear hf hkm hr0 hc0; go_enter Tryz.func122, Tryz.ntmps122
 go_wp2_with (go_at_call 79; refine hold3 ?_)
 refine ⟨?_⟩; refine MC.out.mono ?_; rintro e w1 ⟨rfl, hd1⟩; have HB1 := Hd (show Below w.heap.size w w1 from hd1.below); clear hd1 MC
 go_wp2_with (go_at_call 25; refine hold3 ?_)
 refine ⟨?_⟩; refine (VC.out (-1) w1 HB1.out).mono ?_; rintro e w2 ⟨rfl, hd2⟩; have HB2 := Hd (HB1.out.trans (hd2.below.mono HB1.out.size)); clear hd2 HB1; go_wp2
 go_loopw [3, 4] (fun v3 v4 wr => ∃ (i : Nat) (m : Int), i <= f.length /\ v4 = .int .i64 (i : Int) /\ v3 = .int .i64 m /\ Aside0 (0 <= m ↔ 0 <= valI f (-1) /\ ∀ j ∈ f.take i, 0 <= valI f j.f0) /\ Aside0 (Below w.heap.size w wr)) (fun v3 v4 wr => f.length - (intOf v4).toNat)
 case atStart => exact ⟨0, _, Nat.zero_le _, rfl, rfl, ⟨by simp⟩, ⟨HB2.out⟩⟩
 case round =>
  clear HB2; obtain ⟨i, m, hi, rfl, rfl, HE, HB⟩ := hrel
  by_cases c : i < f.length
  ·obtain ⟨Y, hY⟩ : ∃ Y, f[i] = Y := ⟨_, rfl⟩
   obtain ⟨ad, e1, x0, x1⟩ := at_T85 (Kd.C_below HR.out HB.out) (i : Int) zq4 zq4; rw [Int.toNat_natCast, rdJ f i c, hY] at x0; cases e1; have HX0 := Hd x0; have C1 := Hd (VC.out Y.f0 wr HB.out); obtain ⟨v, hv⟩ : ∃ z, valI f Y.f0 = z := ⟨_, rfl⟩
   have HT := Hd (show ∀ P : Jp -> Prop, (∀ j ∈ f.take (i + 1), P j) ↔ (∀ j ∈ f.take i, P j) /\ P Y from fun P => by
    rw [List.take_add_one, List.getElem?_eq_getElem c, hY]
    constructor
    ·intro h; exact ⟨fun j hj => h j (List.mem_append_left _ hj), h Y zq30⟩
    ·rintro ⟨h1, h2⟩ j hj
     rcases List.mem_append.1 hj with hj | hj
     ·exact h1 j hj
     ·simp at hj; rw [hj]; exact h2)
   rw [hv] at C1; have HLI := Hd (show i < 1024 by have := HL.out; omega); have pI : (0 <= (i : Int)) = True := eq_true zq4; have qI : ((i : Int) < (f.length : Int)) = True := eq_true zq4; have HV := Hd hv; have hwr := wrapN i (by have := HL.out; omega); clear x1 hY hv
   go_wp2_with (go_at_call 25; refine hold3 ?_)
   refine ⟨?_⟩; refine C1.out.mono ?_; rintro e w3 ⟨rfl, hd3⟩; have hb3 := hd3.below; have HB3 := Hd (HB.out.trans (hb3.mono HB.out.size)); have y0 := pw_cell_below hb3 HX0.out; clear hd3 C1 x0
   by_cases h : v < m
   ·have b1 : decide (v < m) = true := DET h
    have HN := Hd (show 0 <= v ↔ 0 <= valI f (-1) /\ ∀ j ∈ f.take (i + 1), 0 <= valI f j.f0 by
     rw [HT.out (fun j => 0 <= valI f j.f0), <- and_assoc, <- HE.out, HV.out]
     constructor
     ·intro h2; exact ⟨by omega, h2⟩
     ·rintro ⟨_, h2⟩; exact h2)
    have C2 := Hd (VC.out Y.f0 w3 HB3.out); rw [HV.out] at C2; clear h hb3
    go_wp2_with (go_at_call 25; refine hold3 ?_)
    refine ⟨?_⟩; refine C2.out.mono ?_; rintro e w4 ⟨rfl, hd4⟩; have HB4 := Hd (HB3.out.trans (hd4.below.mono HB3.out.size)); clear hd4 C2 y0; go_wp2; go_roundw
    case rel => exact ⟨i + 1, v, c, (by first | rw [hwr] | go_num), rfl, ⟨HN.out⟩, ⟨HB4.out⟩⟩
    case measure => first | (rw [hwr]; simp [intOf]; omega) | (simp [intOf]; omega)
   ·have b1 : decide (v < m) = false := DEF h
    have HN := Hd (show 0 <= m ↔ 0 <= valI f (-1) /\ ∀ j ∈ f.take (i + 1), 0 <= valI f j.f0 by
     rw [HT.out (fun j => 0 <= valI f j.f0), <- and_assoc, <- HE.out, HV.out]
     constructor
     ·intro h2; exact ⟨h2, by omega⟩
     ·rintro ⟨h2, _⟩; exact h2)
    clear h hb3; go_wp2; go_roundw
    case rel => exact ⟨i + 1, m, c, (by first | rw [hwr] | go_num), rfl, ⟨HN.out⟩, ⟨HB3.out⟩⟩
    case measure => first | (rw [hwr]; simp [intOf]; omega) | (simp [intOf]; omega)
  ·obtain rfl : i = f.length := by omega
   rw [List.take_length] at HE; have HF := Hd (HE.out.trans HNN.out); clear HE; go_wp2; go_ret; exact ⟨m, rfl, HF.out, HB.out⟩
theorem htable_calls (A0 : Option Addr) (c0 : Nat) (l : List EdP) (w : World) (hr0 : Kd.C kE w A0 l.length l) (hc0 : l.length <= c0) (hl : l.length <= 1024) (hrow : ∀ e ∈ l, e.f0.length <= 4398046511104) :
  Calls Tryz.prog 80 #[.slice A0 l.length c0] w fun e w' => e = .returned (.bool (tableE l)) /\ Below w.heap.size w w' := by
 have MC := Hd (hmay_calls A0 c0 l w hr0 hc0 hl hrow); have HR := Hd hr0; have HC := Hd hc0; have HL := Hd hl; have HRW := Hd hrow; obtain ⟨m, hm⟩ : ∃ m, mayE l = m := ⟨_, rfl⟩
 rw [hm] at MC; have HM := Hd hm; clear hr0 hc0 hl hrow hm; go_enter Tryz.func80, Tryz.ntmps80
 go_wp2_with (go_at_call 50; refine hold3 ?_)
 refine ⟨?_⟩; refine MC.out.mono ?_; rintro e w1 ⟨rfl, hb1⟩; have HB1 := Hd hb1; clear hb1 MC; cases m with
 | false =>
  have HV := Hd (show tableE l = false by
   rw [Bool.eq_false_iff]; intro h; have := (mayE_iff l).2 ((table_iff l).1 h).1; rw [HM.out] at this; cases this)
  go_wp2; go_ret; exact ⟨by rw [HV.out]; rfl, HB1.out⟩
 | true =>
  have HP := Hd ((mayE_iff l).1 HM.out)
  go_wp2_with (go_at_call 66; refine hold3 ?_)
  refine ⟨?_⟩; refine (hrows_calls A0 c0 l w w1 HR.out HB1.out (by have := HL.out; omega) (fun e he => (HP.out.each e he).1)).mono ?_; rintro e w2 ⟨v, rfl, hRr, hb2⟩; obtain ⟨Ar, cr, rfl⟩ := Kd.R_slice hRr; have HB2 := Hd (HB1.out.trans (hb2.mono HB1.out.size)); have HRC := Hd (kHd_C HB2.out (Kd.R_reads' hRr).2.2); obtain ⟨RS, hRS⟩ : ∃ z, rowsOf l = z := ⟨_, rfl⟩
  rw [hRS] at HRC ⊢; have HRS := Hd hRS; have hrl : RS.length <= 1024 := by
   have := insR_len l; rw [insR_eq, hRS] at this; have := HL.out; omega
  clear hRr hb2 hRS; go_wp2
  go_loopw [4] (fun v4 wr => ∃ (j : Nat), j <= RS.length /\ v4 = .int .i64 (j : Int) /\ Aside0 (∀ r ∈ RS.take j, ∀ t, 0 <= valI (jumpsOf l r) t) /\ Aside0 (Below w2.heap.size w2 wr)) (fun v4 wr => RS.length - (intOf v4).toNat)
  case atStart => exact ⟨0, Nat.zero_le _, rfl, ⟨by simp⟩, ⟨Below.refl _ _⟩⟩
  case round =>
   obtain ⟨j, hj, rfl, HN, HB⟩ := hrel
   by_cases c : j < RS.length
   ·obtain ⟨r, hr⟩ : ∃ r, RS[j] = r := ⟨_, rfl⟩
    obtain ⟨a3, Ay, cy, e3, y0, y1, y2⟩ := at_L3 (Kd.C_below HRC.out HB.out) (j : Int) zq4 zq4; rw [rdR RS j c, hr] at y0 y1 y2; rw [Int.toNat_natCast] at y0; cases e3; obtain ⟨kj, hkj⟩ := (jumps10 l r HRW.out (by have := HL.out; omega)).get; have JC := Hd (r10_Jumps.calls kj A0 c0 l Ay cy r (jumpsOf l r) wr (Kd.C_below HR.out (HB2.out.trans (HB.out.mono HB2.out.size))) HC.out y2 y1 hkj); have HMJ := Hd (show mayJ (jumpsOf l r) = true from by
     have h := mayE_all HM.out; rw [runs_groups l (isC_rows HP.out.can)] at h; exact (h (r, jumpsOf l r) (List.mem_map.2 ⟨r, by rw [HRS.out, <- hr]; exact List.getElem_mem c, rfl⟩)).2)
    have HT := Hd (show RS.take (j + 1) = RS.take j ++ [r] by rw [List.take_add_one, List.getElem?_eq_getElem c, hr]; rfl); have HMM := Hd (show r ∈ RS by rw [<- hr]; exact List.getElem_mem c); have pJ : (0 <= (j : Int)) = True := eq_true zq4; have qJ : ((j : Int) < (RS.length : Int)) = True := eq_true zq4; have hwr := wrapN j zq4; clear y1 y2 hkj hr
    go_wp2_with (go_at_call 26; refine hold3 ?_)
    refine ⟨?_⟩; refine JC.out.mono ?_; rintro e w3 ⟨vj, rfl, hRj, hb3⟩; obtain ⟨Aj, cj, rfl⟩ := Kd.R_slice hRj; have HB3 := Hd (HB.out.trans (hb3.mono HB.out.size)); have LC := Hd (hleast_calls Aj cj (jumpsOf l r) w3 HMJ.out (Kd.R_reads' hRj).2.2 (Kd.R_reads' hRj).2.1); clear hRj hb3 JC y0
    go_wp2_with (go_at_call 122; refine hold3 ?_)
    refine ⟨?_⟩; refine LC.out.mono ?_; rintro e w4 ⟨m, rfl, hmn, hb4⟩; have HB4 := Hd (HB3.out.trans (hb4.mono HB3.out.size)); have HMN := Hd hmn; clear hb4 LC hmn
    by_cases h0 : m < 0
    ·have b0 : decide (m < 0) = true := DET h0
     have HV := Hd (show tableE l = false by
      rw [Bool.eq_false_iff]; intro h; have h2 := ((table_iff l).1 h).2 r; have := HMN.out.2 h2; omega)
     clear h0; go_wp2; go_ret; exact ⟨by rw [HV.out]; rfl, HB2.out.trans (HB4.out.mono HB2.out.size)⟩
    ·have b0 : decide (m < 0) = false := DEF h0
     have HN2 := Hd (show ∀ r' ∈ RS.take (j + 1), ∀ t, 0 <= valI (jumpsOf l r') t by
      intro r' hr'; rw [HT.out, List.mem_append, List.mem_singleton] at hr'
      rcases hr' with hr' | hr'
      ·exact HN.out r' hr'
      ·rw [hr']; exact HMN.out.1 zq4)
     clear h0; go_wp2; go_roundw
     case rel => exact ⟨j + 1, c, (by first | rw [hwr] | go_num), ⟨HN2.out⟩, ⟨HB4.out⟩⟩
     case measure => first | (rw [hwr]; simp [intOf]; omega) | (simp [intOf]; omega)
   ·obtain rfl : j = RS.length := by omega
    have HV := Hd (show tableE l = true by
     have h := HN.out; rw [List.take_length] at h; refine (table_iff l).2 ⟨HP.out, fun r t => ?_⟩
     by_cases hr : r ∈ RS
     ·exact h r hr t
     ·have : jumpsOf l r = [] := by
       unfold jumpsOf; rw [List.map_eq_nil_iff, List.filter_eq_nil_iff]; intro e he h2; exact hr (by rw [<- HRS.out]; exact (rowsOf_mem l r).2 ⟨e, he, (eqR_iff _ _).1 h2⟩)
      rw [this]; exact Int.le_refl _)
    go_wp2; go_ret; exact ⟨by rw [HV.out]; rfl, HB2.out.trans (HB.out.mono HB2.out.size)⟩
theorem ask_err {hh : List Vl -> Bool × Int} {x y : Gq} {sum : List Jp} {e : Int} (h : partnerV hh x y = (false, e)) : askV hh x sum y = (sum, e) := by
 unfold askV; rw [h, if_neg zq30]
theorem ask_bad {hh : List Vl -> Bool × Int} {x y : Gq} {sum : List Jp} {b : Bool} {e : Int} (h : partnerV hh x y = (b, e)) (he : e ≠ 0) : askV hh x sum y = (sum, e) := by
 unfold askV; rw [h, if_neg (by simp [he])]
theorem ask_yes {hh : List Vl -> Bool × Int} {x y : Gq} {sum : List Jp} (h : partnerV hh x y = (true, 0)) : askV hh x sum y = bothV (· + ·) sum y.2 := by
 unfold askV; rw [h, if_pos zq30]
theorem refparts_calls (hh : List Vl -> Bool × Int) (Ar Af A0 A2 : Option Addr) (cr cf c0 c2 : Nat) (r : List Vl) (f : List Jp) (l : List EdP) (x : List Op18) (w : World) (hrr : Kd.C kV w Ar r.length r) (hcr : r.length <= cr) (hrf : Kd.C kJp w Af f.length f) (hcf : f.length <= cf)
  (hr0 : Kd.C kE w A0 l.length l) (hc0 : l.length <= c0) (hr2 : Kd.C kOp w A2 x.length x) (hc2 : x.length <= c2)
  (hl : l.length <= 40) (hwl : ∀ e ∈ l, e.f0.length <= 4398046511104)
  (hHO : ∀ (e' : EdP), e' ∈ l -> ∀ (A : Option Addr) (c : Nat) (W : World), Below w.heap.size w W -> Kd.C kV W A (r ++ e'.f0).length (r ++ e'.f0) -> (r ++ e'.f0).length <= c ->
   Calls Tryz.prog 52 #[.slice A2 x.length c2, .slice A (r ++ e'.f0).length c] W fun z w' => z = .returned (.tuple #[.bool (hh (r ++ e'.f0)).1, .int .i64 (hh (r ++ e'.f0)).2]) /\ Below W.heap.size W w') :
  Calls Tryz.prog 42 #[.slice Ar r.length cr, .slice Af f.length cf, .slice A0 l.length c0, .slice A2 x.length c2] w fun e w' => ∃ v, e = .returned (.tuple #[v, .int .i64 (partnersV hh (EvP.formV x) (r, f) l).2]) /\ Kd.R kJp tJ w' w.heap.size (fun _ => True) v (partnersV hh (EvP.formV x) (r, f) l).1 /\ Below w.heap.size w w' := by
 have MR := Hd ((EvP.mayR r).get.elim fun k hk => r06_May.calls k Ar cr r _ w hrr hcr hk); have MF := Hd (fun (W : World) (h : Below w.heap.size w W) => (may09 f).get.elim fun k hk => r09_May.calls k Af cf f _ W (Kd.C_below hrf h) hcf hk); have ML := Hd (fun (W : World) (h : Below w.heap.size w W) => hmay_calls A0 c0 l W (Kd.C_below hr0 h) hc0 zq4 hwl); have TL := Hd (fun (W : World) (h : Below w.heap.size w W) => htable_calls A0 c0 l W (Kd.C_below hr0 h) hc0 zq4 hwl); have FC := Hd (fun (W : World) (h : Below w.heap.size w W) => (EvP.form_R x).get.elim fun k hk => r17_Form.calls k A2 c2 x (EvP.formV x) W (Kd.C_below hr2 h) hc2 hk); have RL := Hd (fun (hm : mayE l = true) (W : World) (h : Below w.heap.size w W) => hrows_calls A0 c0 l w W hr0 h zq4 (fun e he => by
  exact (((mayE_iff l).1 hm).each e he).1))
 have JL := Hd (fun (p : List Vl) (A : Option Addr) (c : Nat) (W : World) (h : Below w.heap.size w W) (h1 : Kd.C kV W A p.length p) (h2 : p.length <= c) => (jumps10 l p hwl zq4).get.elim fun k hk => r10_Jumps.calls k A0 c0 l A c p (jumpsOf l p) W (Kd.C_below hr0 h) hc0 h1 h2 hk); have HRR := Hd (And.intro hcr (fun (W : World) (h : Below w.heap.size w W) => Kd.C_below hrr h)); have HRF := Hd (And.intro hcf (fun (W : World) (h : Below w.heap.size w W) => Kd.C_below hrf h)); have HHO := Hd hHO; have HL := Hd hl; obtain ⟨fe, hfe⟩ : ∃ z, EvP.formV x = z := ⟨_, rfl⟩
 rw [hfe] at FC ⊢; obtain ⟨P, hP⟩ : ∃ z, partnersV hh fe (r, f) l = z := ⟨_, rfl⟩
 have HPV := Hd (show P = if (rowMay r && mayJ f && mayE l) = true then (if tableE l = true then (if fe ≠ 0 then ([], fe) else partsR hh (r, f) [] (runsP l)) else ([], 20)) else ([], 2) by rw [<- hP]; rfl); rw [hP]; obtain ⟨b1, hb1⟩ : ∃ z, rowMay r = z := ⟨_, rfl⟩
 obtain ⟨b2, hb2⟩ : ∃ z, mayJ f = z := ⟨_, rfl⟩
 obtain ⟨b3, hb3⟩ : ∃ z, mayE l = z := ⟨_, rfl⟩
 obtain ⟨b4, hb4⟩ : ∃ z, tableE l = z := ⟨_, rfl⟩
 have HM3 := Hd hb3; rw [hb1] at MR HPV; rw [hb2] at MF HPV; rw [hb3] at ML HPV; rw [hb4] at TL HPV; clear hrr hcr hrf hcf hr0 hc0 hr2 hc2 hl hwl hHO hfe hP hb1 hb2 hb3 hb4; go_enter Tryz.func42, Tryz.ntmps42
 go_wp2_with (go_at_call 69; refine hold3 ?_)
 refine ⟨?_⟩; refine MR.out.mono ?_; rintro e w1 ⟨rfl, hd⟩; have HBX := Hd (show Below w.heap.size w w1 from hd); clear hd MR; cases b1 with
 | false =>
  have HV := Hd (show P = ([], 2) by rw [HPV.out]; simp); go_wp2; go_ret2; rw [HV.out]; exact ⟨_, rfl, Kd.R_nil _ _ _ _ _, HBX.out⟩
 | true =>
 have HB1 := Hd HBX.out; clear HBX
 go_wp2_with (go_at_call 79; refine hold3 ?_)
 refine ⟨?_⟩; refine (MF.out _ HB1.out).mono ?_; rintro e w2 ⟨rfl, hd⟩; have HBX := Hd (HB1.out.trans (hd.below.mono HB1.out.size)); clear hd MF; cases b2 with
 | false =>
  have HV := Hd (show P = ([], 2) by rw [HPV.out]; simp); go_wp2; go_ret2; rw [HV.out]; exact ⟨_, rfl, Kd.R_nil _ _ _ _ _, HBX.out⟩
 | true =>
 have HB2 := Hd HBX.out; clear HBX
 go_wp2_with (go_at_call 50; refine hold3 ?_)
 refine ⟨?_⟩; refine (ML.out _ HB2.out).mono ?_; rintro e w3 ⟨rfl, hb⟩; have HBX := Hd (HB2.out.trans (hb.mono HB2.out.size)); clear hb ML; cases b3 with
 | false =>
  have HV := Hd (show P = ([], 2) by rw [HPV.out]; simp); go_wp2; go_ret2; rw [HV.out]; exact ⟨_, rfl, Kd.R_nil _ _ _ _ _, HBX.out⟩
 | true =>
 have HB3 := Hd HBX.out; clear HBX
 go_wp2_with (go_at_call 80; refine hold3 ?_)
 refine ⟨?_⟩; refine (TL.out _ HB3.out).mono ?_; rintro e w4 ⟨rfl, hb⟩; have HBX := Hd (HB3.out.trans (hb.mono HB3.out.size)); clear hb TL; cases b4 with
 | false =>
  have HV := Hd (show P = ([], 20) by rw [HPV.out]; simp); go_wp2; go_ret2; rw [HV.out]; exact ⟨_, rfl, Kd.R_nil _ _ _ _ _, HBX.out⟩
 | true =>
 have HB4 := Hd HBX.out; clear HBX
 go_wp2_with (go_at_call 51; refine hold3 ?_)
 refine ⟨?_⟩; refine (FC.out _ HB4.out).mono ?_; rintro e w5 ⟨rfl, hb⟩; have HBX := Hd (HB4.out.trans (hb.mono HB4.out.size)); clear hb FC
 by_cases hf0 : fe = 0
 rotate_left
 ·have hne : (fe != 0) = true := bne_iff_ne.mpr hf0
  have HV := Hd (show P = ([], fe) by rw [HPV.out]; simp [hf0]); clear hf0; go_wp2; go_ret2; rw [HV.out]; exact ⟨_, rfl, Kd.R_nil _ _ _ _ _, HBX.out⟩
 ·subst hf0
  have HB5 := Hd HBX.out; clear HBX; obtain ⟨L, hL⟩ : ∃ z, rowsOf l = z := ⟨_, rfl⟩
  have R1 := Hd (RL.out HM3.out); rw [hL] at R1; have HLL := Hd (show L.length <= 40 by
   have h1 := rowsx_len l; rw [hL] at h1; have := HL.out; omega)
  obtain ⟨G, hG⟩ : ∃ z, groups l = z := ⟨_, rfl⟩
  have HGL := Hd (show G = L.map fun p => (p, jumpsOf l p) by rw [<- hG, <- hL]; rfl); have HV := Hd (show P = partsR hh (r, f) [] G by
   rw [HPV.out, may_groups HM3.out, hG]; simp)
  have HML2 := Hd (show ∀ p ∈ L, ∃ e ∈ l, e.f0 = p from fun p hp => (rowsOf_mem l p).1 (by rw [hL]; exact hp)); clear RL hL hG HPV
  go_wp2_with (first
   | (go_at_call 66; refine hold3 ?_)
   | ((with_reducible refine gate_dst (N := 44) rfl ?_); refine Kd.R_lit kJp _ tJ ?hg (N := 44) ?hd (xs := ([] : List Jp)) (inner := []) (ok := fun _ => True) (okp := fun _ => True) ?hr ?hp (fun _ hk => hk) trivial (Below.refl _ _) (Nat.le_refl _) zq30 ?_; (case hd => rfl); (case hg => rfl); (case hr => first | (go_simp; done) | (go_simp; rfl)); (case hp => exact (Reps.none _ _)); intro v9 w6 ho hb hg_ hnew_; obtain ⟨A9, c9, rfl⟩ := Kd.R_slice ho; have HO6 := Hd ho; have HB6 := Hd hb; clear ho hb hg_ hnew_))
  refine ⟨?_⟩; refine (R1.out w6 (HB5.out.trans (HB6.out.mono HB5.out.size))).mono ?_; rintro e w7 ⟨v10, rfl, hRL, hb7⟩; obtain ⟨AL, cL, rfl⟩ := Kd.R_slice hRL; have HRL := Hd (Kd.R_lower hRL (Nat.zero_le _)); have HB7 := Hd (HB5.out.trans ((HB6.out.trans (hb7.mono HB6.out.size)).mono HB5.out.size)); have HO7 := Hd (Kd.R_lower (Kd.R_below HO6.out hb7) HB5.out.size); clear hRL hb7 R1 HO6 HB6 HB5; go_wp2
  go_loopw [11, 13] (fun v11 v13 wr => ∃ (i : Nat) (sum : List Jp) (A9 : Option Addr) (c9 : Nat), i <= L.length /\ v13 = .int .i64 (i : Int) /\ v11 = .slice A9 sum.length c9 /\ Aside0 (Kd.R kJp tJ wr w.heap.size (fun _ => True) (.slice A9 sum.length c9) sum) /\ Aside0 (Below w.heap.size w wr) /\ Aside0 ((kH w).R tR wr 0 (fun _ => True) (.slice AL L.length cL) L) /\
   Aside0 (partsR hh (r, f) [] G = partsR hh (r, f) sum (G.drop i))) (fun v11 v13 wr => L.length - (intOf v13).toNat)
  case atStart => exact ⟨0, [], A9, c9, Nat.zero_le _, rfl, rfl, ⟨HO7.out⟩, ⟨HB7.out⟩, ⟨HRL.out⟩, ⟨by rw [List.drop_zero]⟩⟩
  case round =>
   clear HO7 HB7 HRL; obtain ⟨i, sum, A9, c9, hi, rfl, rfl, HS, HB, HLR, HEQ⟩ := hrel; have hll := HLL.out
   by_cases ci : i < L.length
   ·obtain ⟨p, hp⟩ : ∃ p, L[i] = p := ⟨_, rfl⟩
    have hpi : L[i]? = some p := by rw [List.getElem?_eq_getElem ci, hp]
    obtain ⟨ad, Ax, cx, eL, x0, xl, xC⟩ := at_H (Kd.R_reads' HLR.out).2.2 i p hpi; cases eL; obtain ⟨e2, he2, hq2⟩ := HML2.out p (List.mem_of_getElem? hpi); have HHK := Hd (HHO.out e2 he2); rw [hq2] at HHK; have HST := Hd (partsR_drop hh (r, f) sum G i (p, jumpsOf l p) (by rw [HGL.out, List.getElem?_map, hpi]; rfl)); rw [<- HEQ.out] at HST; obtain ⟨g, hg⟩ : ∃ z, jumpsOf l p = z := ⟨_, rfl⟩
    have C1 := Hd (JL.out p Ax cx wr HB.out (Kd.C_below xC HB.out) xl); rw [hg] at C1 HST; have X0 := Hd (fun (W : World) (h : Below wr.heap.size wr W) => pw_cell_below h x0); have XC := Hd (And.intro xl xC); obtain ⟨⟨h, ef⟩, hbv⟩ : ∃ z, bothV (· * ·) f g = z := ⟨_, rfl⟩
    have TC := Hd (fun (Ak : Option Addr) (ck : Nat) (W : World) (h0 : Below w.heap.size w W) (h3 : Kd.C kJp W Ak g.length g) (h4 : g.length <= ck) => show Calls Tryz.prog 67 #[.slice Af f.length cf, .slice Ak g.length ck, .int .i64 1] W fun e w' => ∃ v, e = .returned (.tuple #[v, .int .i64 ef]) /\ Kd.R kJp tJ w' W.heap.size (fun _ => True) v h /\ Below W.heap.size W w' by
     have h := htwo_calls 1 zq30 Af Ak cf ck f g W (HRF.out.2 W h0) HRF.out.1 h3 h4; rw [show opW 1 = (· * ·) from rfl, hbv] at h; exact h)
    have SC := Hd (fun (Ak : Option Addr) (ck : Nat) (W : World) (h1 : Kd.C kJp W A9 sum.length sum) (h3 : Kd.C kJp W Ak g.length g) (h4 : g.length <= ck) => show Calls Tryz.prog 67 #[.slice A9 sum.length c9, .slice Ak g.length ck, .int .i64 0] W fun e w' => ∃ v, e = .returned (.tuple #[v, .int .i64 (bothV (· + ·) sum g).2]) /\ Kd.R kJp tJ w' W.heap.size (fun _ => True) v (bothV (· + ·) sum g).1 /\ Below W.heap.size W w' by
     have h := htwo_calls 0 zq30 A9 Ak c9 ck sum g W h1 (Kd.R_reads' HS.out).2.1 h3 h4; rw [show opW 0 = (· + ·) from rfl] at h; exact h)
    have HBV := Hd hbv; have pI : (0 <= (i : Int)) = True := eq_true zq4; have qI : ((i : Int) < (L.length : Int)) = True := eq_true zq4; have hwi := wrapN i zq4; clear xl xC hbv hpi hp hq2 he2 hg
    go_wp2_with (go_at_call 26; refine hold3 ?_)
    refine ⟨?_⟩; refine C1.out.mono ?_; rintro e w8 ⟨vj, rfl, hRj, hb8⟩; obtain ⟨Aj, cj, rfl⟩ := Kd.R_slice hRj; have HJ := Hd (Kd.R_reads' hRj); have H8 := Hd hb8; clear hRj hb8 C1 x0
    go_wp2_with (go_at_call 67; refine hold3 ?_)
    refine ⟨?_⟩; refine (TC.out _ _ _ (HB.out.trans (H8.out.mono HB.out.size)) HJ.out.2.2 HJ.out.2.1).mono ?_; rintro e w9 ⟨vh, rfl, hRh, hb9⟩; obtain ⟨Ah, ch, rfl⟩ := Kd.R_slice hRh; have H9 := Hd (H8.out.trans (hb9.mono H8.out.size)); have HJ9 := Hd (And.intro HJ.out.2.1 (Kd.C_below HJ.out.2.2 hb9)); have HBX := Hd (HB.out.trans (H9.out.mono HB.out.size)); clear hRh hb9 TC H8 HJ
    by_cases hef : ef = 0
    rotate_left
    ·have hne : (ef != 0) = true := bne_iff_ne.mpr hef
     have HE := Hd (ask_err (sum := sum) (show partnerV hh (r, f) (p, g) = (false, ef) by unfold partnerV; simp only; rw [HBV.out, if_pos hef])); have HV2 := Hd (show P = ([], ef) by rw [HV.out, HST.out, HE.out, if_pos hef]); clear hef HST; go_wp2; go_ret2; rw [HV2.out]; exact ⟨_, rfl, Kd.R_nil _ _ _ _ _, HBX.out⟩
    ·subst hef
     by_cases hh0 : h = []
     ·subst hh0
      have HE := Hd (ask_err (sum := sum) (show partnerV hh (r, f) (p, g) = (false, 0) by unfold partnerV; simp only; rw [HBV.out, if_neg zq30, if_pos rfl])); have HSN := Hd (Kd.R_below HS.out H9.out); have HLN := Hd (Kd.R_below HLR.out H9.out); have HEN := Hd (show partsR hh (r, f) [] G = partsR hh (r, f) sum (G.drop (i + 1)) by rw [HST.out, HE.out, if_neg zq30]); clear HST; go_wp2; go_roundw
      case rel => exact ⟨i + 1, sum, A9, c9, by omega, (by first | rw [hwi] | go_num), rfl, ⟨HSN.out⟩, ⟨HBX.out⟩, ⟨HLN.out⟩, ⟨HEN.out⟩⟩
      case measure => first | (rw [hwi]; simp [intOf]; omega) | (simp [intOf]; omega)
     ·have hfl : ((h.length : Int) == 0) = false := BNM (by intro e; exact hh0 (List.eq_nil_of_length_eq_zero zq4))
      have HH0 := Hd hh0; obtain ⟨⟨both, ej⟩, hjv⟩ : ∃ z, joinV r p = z := ⟨_, rfl⟩
      have JC := Hd ((join06 r p).get.elim fun kj hkj => show Calls Tryz.prog 32 #[.slice Ar r.length cr, .slice Ax p.length cx] w9 fun e w' => ∃ v, e = .returned (.tuple #[v, .int .i64 ej]) /\ Kd.R kV tV w' w9.heap.size (fun _ => True) v both /\ Below w9.heap.size w9 w' by
       rw [hjv] at hkj; exact r06_Join.calls kj Ar cr r Ax cx p both ej w9 (HRR.out.2 _ HBX.out) HRR.out.1 (Kd.C_below XC.out.2 HBX.out) XC.out.1 hkj)
      have HJV := Hd hjv; have x9 := X0.out _ H9.out; have HBY := Hd HBX.out; clear hh0 hjv HBX
      go_wp2_with (go_at_call 32; refine hold3 ?_)
      refine ⟨?_⟩; refine JC.out.mono ?_; rintro e w10 ⟨vb, rfl, hRb, hb10⟩; obtain ⟨Ab, cb, rfl⟩ := Kd.R_slice hRb; have HBO := Hd (Kd.R_reads' hRb); have H10 := Hd (H9.out.trans (hb10.mono H9.out.size)); have HJ10 := Hd (And.intro HJ9.out.1 (Kd.C_below HJ9.out.2 hb10)); have HBX := Hd (HB.out.trans (H10.out.mono HB.out.size)); clear hRb hb10 JC x9 HBY HJ9 H9
      by_cases hej : ej = 0
      rotate_left
      ·have hne : (ej != 0) = true := bne_iff_ne.mpr hej
       have HE := Hd (ask_err (sum := sum) (show partnerV hh (r, f) (p, g) = (false, ej) by unfold partnerV; simp only; rw [HBV.out, if_neg zq30, if_neg HH0.out, HJV.out, if_pos hej])); have HV2 := Hd (show P = ([], ej) by rw [HV.out, HST.out, HE.out, if_pos hej]); clear hej HST; go_wp2; go_ret2; rw [HV2.out]; exact ⟨_, rfl, Kd.R_nil _ _ _ _ _, HBX.out⟩
      ·subst hej
       obtain ⟨_, _, _, hbe⟩ := joinV_ok HJV.out; have hHK := HHK.out Ab cb w10 HBX.out; rw [<- hbe] at hHK; have HC := Hd (hHK HBO.out.2.2 HBO.out.2.1); obtain ⟨⟨hv, eh⟩, hhv⟩ : ∃ z, hh both = z := ⟨_, rfl⟩
       rw [hhv] at HC; have HE0 := Hd (show partnerV hh (r, f) (p, g) = (hv, eh) by unfold partnerV; simp only; rw [HBV.out, if_neg zq30, if_neg HH0.out, HJV.out, if_neg zq30, hhv]); have HBY := Hd HBX.out; clear hHK hbe hhv HBX
       go_wp2_with (go_at_call 52; refine hold3 ?_)
       refine ⟨?_⟩; refine HC.out.mono ?_; rintro e w11 ⟨rfl, hb11⟩; have H11 := Hd (H10.out.trans (hb11.mono H10.out.size)); have HJ11 := Hd (And.intro HJ10.out.1 (Kd.C_below HJ10.out.2 hb11)); have HBX := Hd (HB.out.trans (H11.out.mono HB.out.size)); clear hb11 HC H10 HJ10 HBY
       by_cases heh : eh = 0
       rotate_left
       ·have hne : (eh != 0) = true := bne_iff_ne.mpr heh
        have HE := Hd (ask_bad (sum := sum) HE0.out heh); have HV2 := Hd (show P = ([], eh) by rw [HV.out, HST.out, HE.out, if_pos heh]); clear heh HST; go_wp2; go_ret2; rw [HV2.out]; exact ⟨_, rfl, Kd.R_nil _ _ _ _ _, HBX.out⟩
       ·subst heh
        cases hv with
        | false =>
         have HE := Hd (ask_err (sum := sum) HE0.out); have HSN := Hd (Kd.R_below HS.out H11.out); have HLN := Hd (Kd.R_below HLR.out H11.out); have HEN := Hd (show partsR hh (r, f) [] G = partsR hh (r, f) sum (G.drop (i + 1)) by rw [HST.out, HE.out, if_neg zq30]); clear HST; go_wp2; go_roundw
         case rel => exact ⟨i + 1, sum, A9, c9, by omega, (by first | rw [hwi] | go_num), rfl, ⟨HSN.out⟩, ⟨HBX.out⟩, ⟨HLN.out⟩, ⟨HEN.out⟩⟩
         case measure => first | (rw [hwi]; simp [intOf]; omega) | (simp [intOf]; omega)
        | true =>
         have HE1 := Hd (ask_yes (sum := sum) HE0.out); have C2 := Hd (SC.out Aj cj w11 (Kd.C_below (Kd.R_reads' HS.out).2.2 H11.out) HJ11.out.2 HJ11.out.1); obtain ⟨⟨sn, es⟩, hsn⟩ : ∃ z, bothV (· + ·) sum g = z := ⟨_, rfl⟩
         rw [hsn] at C2; have HE := Hd (show askV hh (r, f) sum (p, g) = (sn, es) by rw [HE1.out]; exact hsn); have HBY := Hd HBX.out; clear hsn HBX
         go_wp2_with (go_at_call 67; refine hold3 ?_)
         refine ⟨?_⟩; refine C2.out.mono ?_; rintro e w12 ⟨vs, rfl, hRs, hb12⟩; obtain ⟨As, cs, rfl⟩ := Kd.R_slice hRs; have H12 := Hd (H11.out.trans (hb12.mono H11.out.size)); have HSN := Hd (Kd.R_lower hRs HBY.out.size); have HBX := Hd (HB.out.trans (H12.out.mono HB.out.size)); have HLN := Hd (Kd.R_below HLR.out H12.out); clear hb12 hRs C2
         by_cases hes : es = 0
         rotate_left
         ·have hne : (es != 0) = true := bne_iff_ne.mpr hes
          have HV2 := Hd (show P = ([], es) by rw [HV.out, HST.out, HE.out, if_pos hes]); clear hes HST; go_wp2; go_ret2; rw [HV2.out]; exact ⟨_, rfl, Kd.R_nil _ _ _ _ _, HBX.out⟩
         ·subst hes
          have HEN := Hd (show partsR hh (r, f) [] G = partsR hh (r, f) sn (G.drop (i + 1)) by rw [HST.out, HE.out, if_neg zq30]); clear HST; go_wp2; go_roundw
          case rel => exact ⟨i + 1, sn, As, cs, by omega, (by first | rw [hwi] | go_num), rfl, ⟨HSN.out⟩, ⟨HBX.out⟩, ⟨HLN.out⟩, ⟨HEN.out⟩⟩
          case measure => first | (rw [hwi]; simp [intOf]; omega) | (simp [intOf]; omega)
   ·obtain rfl : i = L.length := by omega
    have HV2 := Hd (show P = (sum, 0) by
     have hlen : G.length = L.length := by rw [HGL.out, List.length_map]
     rw [HV.out, HEQ.out, List.drop_eq_nil_of_le (by rw [hlen]; exact Nat.le_refl _), partsR])
    go_wp2; go_ret2; rw [HV2.out]; exact ⟨_, rfl, HS.out, HB.out⟩
end Go.Proofs.YtmkgecapkeojaaaGreat.Eg
end
section
namespace Go.Proofs.YtmkgecapkeojaaaGreat.Eg
open Go.Proofs.YtmkgecapkeojaaaGreat Go.Proofs.YtmkgecapkeojaaaGreat.PDa Go.Proofs.YtmkgecapkeojaaaGreat.EvP
open Go.RowKit Go.Proofs.YtmkgecapkeojaaaGreatW.PrintWords Go.Proofs.YtmkgecapkeojaaaGreatW.PrintLast Go.Proofs.YtmkgecapkeojaaaGreatW.PrintMore
open Go.Proofs.YtmkgecapkeojaaaGreat.Stp Go.Proofs.YtmkgecapkeojaaaGreat.Rw
theorem r64b {z : Int} (h : (Lit.int .i64 z).wf = true) : PDd.r64 z = true := by
 have := R64.of_wf h; unfold PDd.r64; rw [Bool.and_eq_true]; exact ⟨DET this.1, DET this.2⟩
abbrev wfV (v : Rw.Vl) : Prop := (Lit.int .i64 v.f0).wf = true /\ (Lit.int .i64 v.f1).wf = true /\ v.f2.size <= 140737488351232
abbrev wfE (e : EdP) : Prop := ((∀ v ∈ e.f0, wfV v) /\ e.f0.length * Tryz.prog.bytesOf 65 <= 140737488351232) /\ (Lit.int .i64 e.f1).wf = true /\ (Lit.int .i64 e.f2).wf = true
abbrev wfEs (l : List EdP) : Prop := (∀ e ∈ l, wfE e) /\ l.length * Tryz.prog.bytesOf 41 <= 140737488351232
abbrev wfO (x : Op8) : Prop := (Lit.int .i64 x.f0).wf = true /\ (Lit.int .i64 x.f1).wf = true /\ x.f2.size <= 140737488351232
abbrev wfX (l : List Op8) : Prop := (∀ x ∈ l, wfO x) /\ l.length * Tryz.prog.bytesOf 68 <= 140737488351232
theorem bytesV : Tryz.prog.bytesOf 65 = 32 := by kernel_rfl
theorem okEs_wf {l : List EdP} (h : wfEs l) : PDd.okEs l = true := by
 unfold PDd.okEs; refine List.all_eq_true.2 fun e he => ?_
 obtain ⟨⟨h1, h2⟩, _⟩ := h.1 e he; rw [bytesV] at h2; rw [Bool.and_eq_true]; exact ⟨DET zq4, List.all_eq_true.2 fun v hv => r64b (h1 v hv).2.1⟩
theorem okXs_wf {l : List Op8} (h : wfX l) : PDd.okXs l = true := List.all_eq_true.2 fun x hx => r64b (h.1 x hx).2.1
end Go.Proofs.YtmkgecapkeojaaaGreat.Eg
end
section
namespace Go.Proofs.YtmkgecapkeojaaaGreat.Eg
open Go.Proofs.YtmkgecapkeojaaaGreat Go.Proofs.YtmkgecapkeojaaaGreat.PDa
open Go.RowKit Go.Proofs.YtmkgecapkeojaaaGreatW.PrintWords Go.Proofs.YtmkgecapkeojaaaGreatW.PrintLast Go.Proofs.YtmkgecapkeojaaaGreatW.PrintMore
open Go.Proofs.YtmkgecapkeojaaaGreat.Stp Go.Proofs.YtmkgecapkeojaaaGreat.Rw
theorem same09_l0 (f : List Jp) (hl : f.length <= 1000000000) : ∀ (m i : Nat), f.length - i = m -> i <= f.length -> EvP.U (fun k => r09_Same.l0 k f f (i : Int)) true
 | m, i, hm, hi => by
  refine EvP.U.succ ?_; simp only [r09_Same.l0]
  by_cases c1 : i < f.length
  ·refine EvP.U.pos zq4 (EvP.U.pos zq4 (EvP.U.pos zq4 ?_))
   have hw : wrap64 ((i : Int) + 1) = ((i + 1 : Nat) : Int) := by unfold wrap64; omega
   rw [hw]; refine EvP.U.neg zq30 ?_
   match m, hm with
   | 0, hm => omega
   | m + 1, hm => exact same09_l0 f hl m (i + 1) zq4 zq4
  ·exact EvP.U.neg zq4 (EvP.U.some _)
theorem same09 (f : List Jp) (hl : f.length <= 1000000000) : EvP.U (fun k => r09_Same.f k f f) true := by
 unfold r09_Same.f; exact EvP.U.pos rfl (same09_l0 f hl _ 0 rfl (Nat.zero_le _))
theorem few32 (A0 : Option Addr) (c0 n : Nat) (w : World) : Calls Tryz.prog 39 #[.slice A0 n c0] w fun e w' => e = .returned (.bool (decide ((n : Int) <= 40))) /\ Below w.heap.size w w' := by
 go_enter Tryz.func39, Tryz.ntmps39; go_wp2; go_ret; exact ⟨rfl, Below.refl _ _⟩
theorem partsR_len (hh : List Vl -> Bool × Int) (x : Gq) : ∀ (G : List Gq) (sum : List Jp), (∀ y ∈ G, y.2.length <= 40) -> (partsR hh x sum G).1.length <= sum.length + 40 * G.length
 | [], sum, _ => Nat.le_refl _
 | y :: ys, sum, h => by
  rw [partsR]
  split
  ·exact Nat.zero_le _
  ·have h1 := partsR_len hh x ys (askV hh x sum y).1 (fun z hz => h z (List.mem_cons_of_mem _ hz))
   have h2 : (askV hh x sum y).1.length <= sum.length + 40 := by
    unfold askV
    split
    ·have := bothV_len (· + ·) sum y.2
     have := h y List.mem_cons_self; omega
    ·exact Nat.le_add_right _ _
   rw [List.length_cons]; omega
theorem partnersV_len (hh : List Vl -> Bool × Int) (ef : Int) (x : Gq) (l : List EdP) (hl : l.length <= 40) : (partnersV hh ef x l).1.length <= 1000000000 := by
 unfold partnersV
 split
 ·rename_i hm
  rw [Bool.and_eq_true] at hm
  split
  ·split
   ·exact Nat.zero_le _
   ·rw [may_groups hm.2]
    have h := partsR_len hh x (groups l) [] (fun y hy => by
     obtain ⟨p, hp, rfl⟩ := List.mem_map.1 hy; exact Nat.le_trans (jumpsOf_len l p) hl)
    have h2 : (groups l).length = (rowsOf l).length := by unfold groups; exact List.length_map _
    have h3 := rowsx_len l; rw [List.length_nil] at h; omega
  ·exact Nat.zero_le _
 ·exact Nat.zero_le _
abbrev wfJ (j : Jp) : Prop := (Lit.int .i64 j.f0).wf = true /\ (Lit.int .i64 j.f1).wf = true
theorem hold32 {x : List Op8} {r : List Vl} {l : List EdP} (hR : PDd.okEs [⟨r, 0, 0⟩] = true) (hl : PDd.okEs l = true) (hx : PDd.okXs x = true) (e : EdP) (he : e ∈ l) : EvP.XOk x (r ++ e.f0) :=
 ⟨(PDd.okX hR hx ⟨r, 0, 0⟩ zq30).x, fun v hv => (List.mem_append.1 hv).elim ((PDd.okX hR hx ⟨r, 0, 0⟩ zq30).row v) ((PDd.okX hl hx e he).row v)⟩
theorem antiPartners_walk (A0 : Option Addr) (c0 : Nat) (r : List Vl) (A1 : Option Addr) (c1 : Nat) (f : List Jp) (A2 : Option Addr) (c2 : Nat) (l : List EdP) (A3 : Option Addr) (c3 : Nat) (x : List Op8) (w : World)
  (hr0 : Kd.C k65 w A0 r.length r) (hc0 : r.length <= c0) (h0 : (∀ v ∈ r, wfV v) /\ r.length * Tryz.prog.bytesOf 65 <= 140737488351232)
  (hr1 : Kd.C k85 w A1 f.length f) (hc1 : f.length <= c1) (h1 : (∀ j ∈ f, wfJ j) /\ f.length * Tryz.prog.bytesOf 85 <= 140737488351232)
  (hr2 : Kd.C k41 w A2 l.length l) (hc2 : l.length <= c2) (h2 : wfEs l) (hr3 : Kd.C k68 w A3 x.length x) (hc3 : x.length <= c3) (h3 : wfX x) :
  Calls Tryz.prog 12 #[.slice A0 r.length c0, .slice A1 f.length c1, .slice A2 l.length c2, .slice A3 x.length c3] w fun e w' => e = .returned (.bool true) /\ Below w.heap.size w w' := by
 have hR : PDd.okEs [⟨r, 0, 0⟩] = true := okEs_wf ⟨fun e he => by
  obtain rfl : e = ⟨r, 0, 0⟩ := by simpa using he
  exact ⟨h0, by show (Lit.int .i64 0).wf = true; decide, by show (Lit.int .i64 0).wf = true; decide⟩, by show 1 * Tryz.prog.bytesOf 41 <= 140737488351232; decide +kernel⟩
 have hl := okEs_wf h2; have hx := okXs_wf h3; have hwl := PDd.okEs_row hl; have FL := Hd (few32 A2 c2 l.length w); have LV := Hd (fun w1 => liveA_calls w1); have PA := Hd (fun (W : World) (h : Below w.heap.size w W) => Partners_calls (EvP.holdsV x) (EvP.formV x) (r, f) A0 A1 A2 A3 c0 c1 c2 c3 l x W ⟨Kd.C_below hr0 h, hc0⟩ ⟨Kd.C_below hr1 h, hc1⟩ (Kd.C_below hr2 h) hwl (Kd.C_below hr3 h) hc3
  (fun y hy hj => holds_ok (l := [⟨r, 0, 0⟩]) hR hl hx (r, f) y ⟨⟨r, 0, 0⟩, by simp, rfl⟩ (runs_mem l y hy).1 hj) (EvP.form_E x).get)
 have PB := Hd (fun (hf : l.length <= 40) (W : World) (h : Below w.heap.size w W) => refparts_calls (EvP.holdsV x) A0 A1 A2 A3 c0 c1 c2 c3 r f l x W (Kd.C_below hr0 h) hc0 (Kd.C_below hr1 h) hc1 (Kd.C_below hr2 h) hc2 (Kd.C_below hr3 h) hc3 hf hwl
  (fun e he A c W1 hb hC hc => hholds_calls x (r ++ e.f0) (hold32 hR hl hx e he) A3 A c3 c W1 (Kd.C_below hr3 (h.trans (hb.mono h.size))) hc3 hC hc))
 have hp := partnersV_len (EvP.holdsV x) (EvP.formV x) (r, f) l; obtain ⟨⟨G, g⟩, hG⟩ : ∃ z, partnersV (EvP.holdsV x) (EvP.formV x) (r, f) l = z := ⟨_, rfl⟩
 rw [hG] at PA PB hp; have SG := Hd (fun (hf : l.length <= 40) (A A' : Option Addr) (c c' : Nat) (W : World) (h1 : Kd.C kJp W A G.length G) (h2 : G.length <= c) (h3 : Kd.C kJp W A' G.length G) (h4 : G.length <= c') => (same09 G (hp hf)).get.elim fun k hk => r09_Same.calls k A c G A' c' G true W h1 h2 h3 h4 hk); clear hr0 hc0 hr1 hc1 hr2 hc2 hr3 hc3 hl hx hwl hp hG hR h0 h1 h2 h3
 by_cases hfl : l.length <= 40
 rotate_left
 ·have b0 : decide ((l.length : Int) <= 40) = false := DEF zq4
  rw [b0] at FL; clear hfl b0; go_enter Tryz.func12, Tryz.ntmps12
  go_wp2_with (go_at_call 39; refine hold_intro ?_)
  refine ⟨?_⟩; refine FL.out.mono ?_; rintro e w1 ⟨rfl, hd1⟩; have HB1 := Hd hd1; clear hd1
  go_wp2_with (go_at_call 40; refine hold_intro ?_)
  refine ⟨?_⟩; refine (LV.out w1).mono ?_; rintro e w2 ⟨rfl, hb2⟩; go_wp2; go_ret; exact ⟨rfl, HB1.out.trans (hb2.mono HB1.out.size)⟩
 ·have b0 : decide ((l.length : Int) <= 40) = true := DET zq4
  rw [b0] at FL; have HFL := Hd hfl; clear b0 hfl
  by_cases hff : f.length <= 40
  rotate_left
  ·have b1 : decide ((f.length : Int) > 40) = true := DET zq4
   clear hff; go_enter Tryz.func12, Tryz.ntmps12
   go_wp2_with (go_at_call 39; refine hold_intro ?_)
   refine ⟨?_⟩; refine FL.out.mono ?_; rintro e w1 ⟨rfl, hd1⟩; have HB1 := Hd hd1; clear hd1
   go_wp2_with (go_at_call 40; refine hold_intro ?_)
   refine ⟨?_⟩; refine (LV.out w1).mono ?_; rintro e w2 ⟨rfl, hb2⟩; go_wp2; go_ret; exact ⟨rfl, HB1.out.trans (hb2.mono HB1.out.size)⟩
  ·have b1 : decide ((f.length : Int) > 40) = false := DEF zq4
   clear hff; go_enter Tryz.func12, Tryz.ntmps12
   go_wp2_with (go_at_call 39; refine hold_intro ?_)
   refine ⟨?_⟩; refine FL.out.mono ?_; rintro e w1 ⟨rfl, hd1⟩; have HB1 := Hd hd1; clear hd1 FL
   go_wp2_with (go_at_call 41; refine hold_intro ?_)
   refine ⟨?_⟩; refine (PA.out w1 HB1.out).mono ?_; rintro e w3 ⟨va, rfl, hRa, hb3⟩; obtain ⟨Aa, ca, rfl⟩ := Kd.R_slice hRa; have HB3 := Hd (HB1.out.trans (hb3.mono HB1.out.size)); have HRA := Hd (Kd.R_reads' hRa); clear hRa hb3 PA
   go_wp2_with (go_at_call 42; refine hold_intro ?_)
   refine ⟨?_⟩; refine (PB.out HFL.out w3 HB3.out).mono ?_; rintro e w4 ⟨vb, rfl, hRb, hb4⟩; obtain ⟨Ab, cb, rfl⟩ := Kd.R_slice hRb; have HB4 := Hd (HB3.out.trans (hb4.mono HB3.out.size)); have HRB := Hd (Kd.R_reads' hRb); have HRA4 := Hd (Kd.C_below HRA.out.2.2 hb4); clear hRb hb4 PB
   go_wp2_with (go_at_call 40; refine hold_intro ?_)
   refine ⟨?_⟩; refine (LV.out w4).mono ?_; rintro e w5 ⟨rfl, hb5⟩; have HB5 := Hd (HB4.out.trans (hb5.mono HB4.out.size)); have S1 := Hd (SG.out HFL.out Aa Ab ca cb w5 (Kd.C_below HRA4.out hb5) HRA.out.2.1 (Kd.C_below HRB.out.2.2 hb5) HRB.out.2.1); clear hb5 LV SG
   go_wp2_with (go_at_call 43; refine hold_intro ?_)
   refine ⟨?_⟩; refine S1.out.mono ?_; rintro e w6 ⟨rfl, hd6⟩; have HB6 := Hd (HB5.out.trans (hd6.below.mono HB5.out.size)); clear hd6; go_wp2; go_ret; exact ⟨rfl, HB6.out⟩
end Go.Proofs.YtmkgecapkeojaaaGreat.Eg
end
